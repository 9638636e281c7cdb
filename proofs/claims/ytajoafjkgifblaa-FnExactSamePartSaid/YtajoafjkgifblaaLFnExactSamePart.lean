/- FnExactSamePart: for every input the law returns true, and its arguments read afterwards as they read before. No condition besides those of the statement itself. -/
import Derived.Test.YtajoafjkgifblaaLaw
import Derived.Test.YtajoafjkgifblaaPart3
import Derived.Test.YtajoafjkgifblaaOpenPart
import Derived.Test.YtajoafjkgifblaaOpenCore
import Derived.ShutString
namespace Go.Proofs.Ytajoafjkgifblaa.fnExactSamePart
open Go.ChangeShapes Go.WideShapes Go.ChangeAt Go.RowKit
open Go.ChangeMaps (open_string shut_string)
set_option linter.unusedVariables false

theorem own : ownKnob Try.prog.godebug = none := by kernel_rfl

set_option maxHeartbeats 2000000 in
/-- The walk: the Go text returns true. -/
theorem walk (w : World) (v0 : Value) (a0 : Pu.PartD) (hv0 : RdPart w v0 a0) (v1 : Value) (a1 : Pu.PartD) (hv1 : RdPart w v1 a1) :
    Calls Try.prog 7 #[v0, v1] w fun e w' => e = .returned (.bool true) ∧ Below w.heap.size w w' := by
  obtain ⟨wf0, s0, t0, rfl, ⟨r0, z0⟩, rl0, zl0⟩ := hv0
  have Z0 := hide z0
  have ZL0 := hide zl0
  have WF0 := hide wf0
  clear z0 zl0 wf0
  obtain ⟨wf1, s1, t1, rfl, ⟨r1, z1⟩, rl1, zl1⟩ := hv1
  have Z1 := hide z1
  have ZL1 := hide zl1
  have WF1 := hide wf1
  clear z1 zl1 wf1
  by_cases hs0 : (Pu.totPart a0 : Int) ≤ 1048576
  · have hsz0 : Hid (Pu.szPart a0 1048576 = 1048576 - (Pu.totPart a0 : Int)) := by rw [Hid, Pu.szPart, if_pos hs0]
    obtain ⟨L1, hL1⟩ : ∃ L1 : Int, L1 = 1048576 - (Pu.totPart a0 : Int) := ⟨_, rfl⟩
    rw [← hL1] at hsz0
    have hLa1 : 0 ≤ L1 := by omega
    have hLb1 : L1 ≤ 1048576 := by omega
    have hln0 : a0.core.cells.length ≤ 1048576 := by unfold Pu.totPart Pu.totCore at hs0; omega
    have hll0 : a0.layers.length ≤ 1048576 := by unfold Pu.totPart Pu.totCore at hs0; omega
    by_cases hs1 : (Pu.totPart a1 : Int) ≤ L1
    · have hsz1 : Hid (Pu.szPart a1 L1 = L1 - (Pu.totPart a1 : Int)) := by rw [Hid, Pu.szPart, if_pos hs1]
      obtain ⟨L2, hL2⟩ : ∃ L2 : Int, L2 = L1 - (Pu.totPart a1 : Int) := ⟨_, rfl⟩
      rw [← hL2] at hsz1
      have hLa2 : 0 ≤ L2 := by omega
      have hLb2 : L2 ≤ 1048576 := by omega
      have hln1 : a1.core.cells.length ≤ 1048576 := by unfold Pu.totPart Pu.totCore at hs1; omega
      have hll1 : a1.layers.length ≤ 1048576 := by unfold Pu.totPart Pu.totCore at hs1; omega
      clear hL1 hL2
      unfold partV
      go_enter Try.func7, Try.ntmps7
      obtain ⟨w0, hw0⟩ : ∃ w0, Hid (((w.alloc (.cells #[.string a0.core.kind, .bool a0.core.on, .bool a0.core.broken, s0, .int .i64 a0.core.count, t0] 49 : Obj)).alloc (.cells #[.string a1.core.kind, .bool a1.core.on, .bool a1.core.broken, s1, .int .i64 a1.core.count, t1] 49 : Obj)) = w0) := ⟨_, rfl⟩
      have b0 : Below w.heap.size w w0 := by rw [← hw0.out]; exact below_alloc (below_alloc (Below.refl _ _) _) _
      have BX0 := hide (show ∀ W : World, Below w0.heap.size w0 W → W.heap[w.heap.size]? = some (.cells #[.string a0.core.kind, .bool a0.core.on, .bool a0.core.broken, s0, .int .i64 a0.core.count, t0] 49 : Obj) from fun W h => (h.block (w.heap.size) (by rw [← hw0.out]; simp <;> omega)).trans (by rw [← hw0.out]; exact heap_old (by simp <;> omega) (heap_new (by simp))))
      have BX1 := hide (show ∀ W : World, Below w0.heap.size w0 W → W.heap[w.heap.size + 1]? = some (.cells #[.string a1.core.kind, .bool a1.core.on, .bool a1.core.broken, s1, .int .i64 a1.core.count, t1] 49 : Obj) from fun W h => (h.block (w.heap.size + 1) (by rw [← hw0.out]; simp <;> omega)).trans (by rw [← hw0.out]; exact heap_new (by simp)))
      have hsw : w.heap.size + 1 < w0.heap.size := by rw [← hw0.out]; simp <;> omega
      go_wp2_with fail
      rw [hw0.out]
      have qr0 := RdL.below r0 b0 (Nat.le_refl _)
      have qrl0 := RdL.below rl0 b0 (Nat.le_refl _)
      have qr1 := RdL.below r1 b0 (Nat.le_refl _)
      have qrl1 := RdL.below rl1 b0 (Nat.le_refl _)
      refine (szPart_c a0 s0 t0 1048576 _ WF0.out (RdCells.below ⟨qr0, Z0.out⟩ (Below.refl _ _)) (RdLayers.below ⟨qrl0, ZL0.out⟩ (Below.refl _ _)) (by omega) (by omega)).mono ?_; rintro e W1 ⟨rfl, b1⟩
      rw [hsz0.out]
      have c1 : Below w0.heap.size w0 W1 := b1
      obtain ⟨_, _, _, _, _, _, _⟩ := six_cells (BX0.out _ c1)
      obtain ⟨_, _, _, _, _, _, _⟩ := six_cells (BX1.out _ c1)
      go_wp2_with fail
      refine (szPart_c a1 s1 t1 L1 _ WF1.out (RdCells.below ⟨qr1, Z1.out⟩ c1) (RdLayers.below ⟨qrl1, ZL1.out⟩ c1) (by omega) (by omega)).mono ?_; rintro e W2 ⟨rfl, b2⟩
      rw [hsz1.out]
      have c2 : Below w0.heap.size w0 W2 := below_then c1 b2
      obtain ⟨_, _, _, _, _, _, _⟩ := six_cells (BX0.out _ c2)
      obtain ⟨_, _, _, _, _, _, _⟩ := six_cells (BX1.out _ c2)
      have hb0 : w.heap.size < W2.heap.size := by have := c2.size; omega
      have hb1 : w.heap.size + 1 < W2.heap.size := by have := c2.size; omega
      go_wp2_with fail
      have K0 : Below W2.heap.size W2 W2 := Below.refl _ _
      have KD : ∀ w' : World, Below W2.heap.size W2 w' → Below W2.heap.size W2 w'.drew := fun _ h => h.drew
      go_region_held3 (fun w' => Below W2.heap.size W2 w' ∧ w'.cell? ⟨w.heap.size, 0, none⟩ = some (.string a0.core.kind) ∧ w'.cell? ⟨w.heap.size, 1, none⟩ = some (.bool a0.core.on) ∧ w'.cell? ⟨w.heap.size, 2, none⟩ = some (.bool a0.core.broken) ∧ w'.cell? ⟨w.heap.size, 3, none⟩ = some (s0) ∧ w'.cell? ⟨w.heap.size, 4, none⟩ = some (.int .i64 a0.core.count) ∧ w'.cell? ⟨w.heap.size, 5, none⟩ = some (t0) ∧ w'.cell? ⟨w.heap.size + 1, 0, none⟩ = some (.string a1.core.kind) ∧ w'.cell? ⟨w.heap.size + 1, 1, none⟩ = some (.bool a1.core.on) ∧ w'.cell? ⟨w.heap.size + 1, 2, none⟩ = some (.bool a1.core.broken) ∧ w'.cell? ⟨w.heap.size + 1, 3, none⟩ = some (s1) ∧ w'.cell? ⟨w.heap.size + 1, 4, none⟩ = some (.int .i64 a1.core.count) ∧ w'.cell? ⟨w.heap.size + 1, 5, none⟩ = some (t1)) (go_keep)
        (first
             | (go_at_call 30;
                 refine (toPart_c _ _ _ _ (by first | exact RdL.below (RdL.below qr0 c2 (Nat.le_refl _)) (And.left (by assumption)) (Nat.le_refl _) | exact RdL.below (RdL.below qr1 c2 (Nat.le_refl _)) (And.left (by assumption)) (Nat.le_refl _)) (by first | exact hln0 | exact hln1) (by first | exact RdL.below (RdL.below qrl0 c2 (Nat.le_refl _)) (And.left (by assumption)) (Nat.le_refl _) | exact RdL.below (RdL.below qrl1 c2 (Nat.le_refl _)) (And.left (by assumption)) (Nat.le_refl _)) (by first | exact hll0 | exact hll1)).mono ?_;
                 rintro e WX ⟨vX, uX, rfl, oX, pX, nX, bX⟩;
                 (first | (have RA : RdL WX 2 cellEn vX a0.core.cells := oX.rd (fun _ => rfl); have QA : RdL WX 2 layerEn uX a0.layers := pX.rd (fun _ => rfl); (try have RB' := RdL.below RB (below_then (by first | exact Below.refl _ _ | exact (Below.refl _ _).drew | exact (Below.refl _ _).drew.drew | exact (Below.refl _ _).drew.drew.drew) bX) (Nat.le_refl _)); (try have QB' := RdL.below QB (below_then (by first | exact Below.refl _ _ | exact (Below.refl _ _).drew | exact (Below.refl _ _).drew.drew | exact (Below.refl _ _).drew.drew.drew) bX) (Nat.le_refl _))) | (have RB : RdL WX 2 cellEn vX a1.core.cells := oX.rd (fun _ => rfl); have QB : RdL WX 2 layerEn uX a1.layers := pX.rd (fun _ => rfl); (try have RA' := RdL.below RA (below_then (by first | exact Below.refl _ _ | exact (Below.refl _ _).drew | exact (Below.refl _ _).drew.drew | exact (Below.refl _ _).drew.drew.drew) bX) (Nat.le_refl _)); (try have QA' := RdL.below QA (below_then (by first | exact Below.refl _ _ | exact (Below.refl _ _).drew | exact (Below.refl _ _).drew.drew | exact (Below.refl _ _).drew.drew.drew) bX) (Nat.le_refl _))));
                 have KWWX : Below W2.heap.size W2 WX := below_then (And.left (by assumption)) bX;
                 have KWX0 : ∀ k : Nat, WX.cell? ⟨w.heap.size, k, none⟩ = _ := fun k => bX.cell (Nat.lt_of_lt_of_le hb0 (Below.size (And.left (by assumption))));
                 have KWX1 : ∀ k : Nat, WX.cell? ⟨w.heap.size + 1, k, none⟩ = _ := fun k => bX.cell (Nat.lt_of_lt_of_le hb1 (Below.size (And.left (by assumption)))))
             | (go_at_call 29;
                 refine (sSamePart_c a0 a1 _ _ _ _ _ (by first | exact RdL.below RA' (by first | exact Below.refl _ _ | exact (Below.refl _ _).drew | exact (Below.refl _ _).drew.drew | exact (Below.refl _ _).drew.drew.drew) (Nat.le_refl _) | exact RdL.below RA (by first | exact Below.refl _ _ | exact (Below.refl _ _).drew | exact (Below.refl _ _).drew.drew | exact (Below.refl _ _).drew.drew.drew) (Nat.le_refl _)) (by first | exact RdL.below QA' (by first | exact Below.refl _ _ | exact (Below.refl _ _).drew | exact (Below.refl _ _).drew.drew | exact (Below.refl _ _).drew.drew.drew) (Nat.le_refl _) | exact RdL.below QA (by first | exact Below.refl _ _ | exact (Below.refl _ _).drew | exact (Below.refl _ _).drew.drew | exact (Below.refl _ _).drew.drew.drew) (Nat.le_refl _)) (by first | exact RdL.below RB' (by first | exact Below.refl _ _ | exact (Below.refl _ _).drew | exact (Below.refl _ _).drew.drew | exact (Below.refl _ _).drew.drew.drew) (Nat.le_refl _) | exact RdL.below RB (by first | exact Below.refl _ _ | exact (Below.refl _ _).drew | exact (Below.refl _ _).drew.drew | exact (Below.refl _ _).drew.drew.drew) (Nat.le_refl _)) (by first | exact RdL.below QB' (by first | exact Below.refl _ _ | exact (Below.refl _ _).drew | exact (Below.refl _ _).drew.drew | exact (Below.refl _ _).drew.drew.drew) (Nat.le_refl _) | exact RdL.below QB (by first | exact Below.refl _ _ | exact (Below.refl _ _).drew | exact (Below.refl _ _).drew.drew | exact (Below.refl _ _).drew.drew.drew) (Nat.le_refl _))).mono ?_;
                 rintro e WC ⟨rfl, bC⟩;
                 have KWWC : Below W2.heap.size W2 WC := below_then (And.left (by assumption)) bC;
                 have KWC0 : ∀ k : Nat, WC.cell? ⟨w.heap.size, k, none⟩ = _ := fun k => bC.cell (Nat.lt_of_lt_of_le hb0 (Below.size (And.left (by assumption))));
                 have KWC1 : ∀ k : Nat, WC.cell? ⟨w.heap.size + 1, k, none⟩ = _ := fun k => bC.cell (Nat.lt_of_lt_of_le hb1 (Below.size (And.left (by assumption))))))
      clear K0 KD
      have cR : Below w0.heap.size w0 WC := below_then c2 KWWC
      obtain ⟨_, _, _, _, _, _, _⟩ := six_cells (BX0.out _ cR)
      obtain ⟨_, _, _, _, _, _, _⟩ := six_cells (BX1.out _ cR)
      go_wp2_with fail
      refine (toPart_c a0 s0 t0 _ (RdL.below qr0 cR (Nat.le_refl _)) hln0 (RdL.below qrl0 cR (Nat.le_refl _)) hll0).mono ?_; rintro e W4 ⟨v4, u4, rfl, o4, p4, n4, b4⟩
      have r_4 : RdL W4 2 cellEn v4 a0.core.cells := o4.rd (fun _ => rfl)
      have rl_4 : RdL W4 2 layerEn u4 a0.layers := p4.rd (fun _ => rfl)
      have c4 : Below w0.heap.size w0 W4 := below_then cR b4
      obtain ⟨A4, k4, rfl⟩ := o4.shape
      obtain ⟨B4, l4, rfl⟩ := p4.shape
      have hz0_4 : w.heap.size < W4.heap.size := by have := c4.size; omega
      have hz1_4 : w.heap.size + 1 < W4.heap.size := by have := c4.size; omega
      unfold partV
      obtain ⟨_, _, _, _, _, _, _⟩ := six_cells (BX0.out _ c4)
      obtain ⟨_, _, _, _, _, _, _⟩ := six_cells (BX1.out _ c4)
      go_wp2_with fail
      refine (toPart_c a1 s1 t1 _ (RdL.below qr1 (below_alloc c4 _) (Nat.le_refl _)) hln1 (RdL.below qrl1 (below_alloc c4 _) (Nat.le_refl _)) hll1).mono ?_; rintro e W5 ⟨v5, u5, rfl, o5, p5, n5, b5⟩
      have r_5 : RdL W5 2 cellEn v5 a1.core.cells := o5.rd (fun _ => rfl)
      have rl_5 : RdL W5 2 layerEn u5 a1.layers := p5.rd (fun _ => rfl)
      have c5 : Below w0.heap.size w0 W5 := below_then (below_alloc c4 _) b5
      obtain ⟨A5, k5, rfl⟩ := o5.shape
      obtain ⟨B5, l5, rfl⟩ := p5.shape
      have hz0_5 : w.heap.size < W5.heap.size := by have := c5.size; omega
      have hz1_5 : w.heap.size + 1 < W5.heap.size := by have := c5.size; omega
      have Y4_5 := hide (show W5.heap[W4.heap.size]? = some (.cells #[.string a0.core.kind, .bool a0.core.on, .bool a0.core.broken, .slice A4 a0.core.cells.length k4, .int .i64 a0.core.count, .slice B4 a0.layers.length l4] 41 : Obj) from (b5.block W4.heap.size (by simp)).trans (heap_new rfl))
      have d4_5 : Below W4.heap.size W4 W5 := below_then (below_alloc (Below.refl _ _) _) b5
      have hy4_5 : W4.heap.size < W5.heap.size := by have := b5.size; simp at this; omega
      obtain ⟨_, _, _, _, _, _, _⟩ := six_cells Y4_5.out
      unfold partV
      obtain ⟨_, _, _, _, _, _, _⟩ := six_cells (BX0.out _ c5)
      obtain ⟨_, _, _, _, _, _, _⟩ := six_cells (BX1.out _ c5)
      go_wp2_with fail
      refine (iSamePart_c a0 a1 _ _ _ _ _ (RdL.below r_4 (below_alloc d4_5 _) (Nat.le_refl _)) (RdL.below rl_4 (below_alloc d4_5 _) (Nat.le_refl _)) (RdL.below r_5 (below_alloc (Below.refl _ _) _) (Nat.le_refl _)) (RdL.below rl_5 (below_alloc (Below.refl _ _) _) (Nat.le_refl _))).mono ?_; rintro e W6 ⟨rfl, b6⟩
      have c6 : Below w0.heap.size w0 W6 := below_then (below_alloc c5 _) b6
      have Y4_6 := hide (show W6.heap[W4.heap.size]? = some (.cells #[.string a0.core.kind, .bool a0.core.on, .bool a0.core.broken, .slice A4 a0.core.cells.length k4, .int .i64 a0.core.count, .slice B4 a0.layers.length l4] 41 : Obj) from (b6.block W4.heap.size (by simp <;> omega)).trans (heap_old (by omega) Y4_5.out))
      have d4_6 : Below W4.heap.size W4 W6 := below_then (below_alloc d4_5 _) b6
      have hy4_6 : W4.heap.size < W6.heap.size := by have := b6.size; simp at this; omega
      obtain ⟨_, _, _, _, _, _, _⟩ := six_cells Y4_6.out
      have Y5_6 := hide (show W6.heap[W5.heap.size]? = some (.cells #[.string a1.core.kind, .bool a1.core.on, .bool a1.core.broken, .slice A5 a1.core.cells.length k5, .int .i64 a1.core.count, .slice B5 a1.layers.length l5] 41 : Obj) from (b6.block W5.heap.size (by simp)).trans (heap_new rfl))
      have d5_6 : Below W5.heap.size W5 W6 := below_then (below_alloc (Below.refl _ _) _) b6
      have hy5_6 : W5.heap.size < W6.heap.size := by have := b6.size; simp at this; omega
      obtain ⟨_, _, _, _, _, _, _⟩ := six_cells Y5_6.out
      have hz0_6 : w.heap.size < W6.heap.size := by have := c6.size; omega
      have hz1_6 : w.heap.size + 1 < W6.heap.size := by have := c6.size; omega
      obtain ⟨_, _, _, _, _, _, _⟩ := six_cells (BX0.out _ c6)
      obtain ⟨_, _, _, _, _, _, _⟩ := six_cells (BX1.out _ c6)
      go_wp2_with fail
      have K0 : Below W6.heap.size W6 W6 := Below.refl _ _
      have KD : ∀ w' : World, Below W6.heap.size W6 w' → Below W6.heap.size W6 w'.drew := fun _ h => h.drew
      go_region_held3 (fun w' => Below W6.heap.size W6 w' ∧ w'.cell? ⟨W4.heap.size, 0, none⟩ = some (.string a0.core.kind) ∧ w'.cell? ⟨W4.heap.size, 1, none⟩ = some (.bool a0.core.on) ∧ w'.cell? ⟨W4.heap.size, 2, none⟩ = some (.bool a0.core.broken) ∧ w'.cell? ⟨W4.heap.size, 3, none⟩ = some (.slice A4 a0.core.cells.length k4) ∧ w'.cell? ⟨W4.heap.size, 4, none⟩ = some (.int .i64 a0.core.count) ∧ w'.cell? ⟨W4.heap.size, 5, none⟩ = some (.slice B4 a0.layers.length l4) ∧ w'.cell? ⟨W5.heap.size, 0, none⟩ = some (.string a1.core.kind) ∧ w'.cell? ⟨W5.heap.size, 1, none⟩ = some (.bool a1.core.on) ∧ w'.cell? ⟨W5.heap.size, 2, none⟩ = some (.bool a1.core.broken) ∧ w'.cell? ⟨W5.heap.size, 3, none⟩ = some (.slice A5 a1.core.cells.length k5) ∧ w'.cell? ⟨W5.heap.size, 4, none⟩ = some (.int .i64 a1.core.count) ∧ w'.cell? ⟨W5.heap.size, 5, none⟩ = some (.slice B5 a1.layers.length l5) ∧ w'.cell? ⟨w.heap.size, 0, none⟩ = some (.string a0.core.kind) ∧ w'.cell? ⟨w.heap.size, 1, none⟩ = some (.bool a0.core.on) ∧ w'.cell? ⟨w.heap.size, 2, none⟩ = some (.bool a0.core.broken) ∧ w'.cell? ⟨w.heap.size, 3, none⟩ = some (s0) ∧ w'.cell? ⟨w.heap.size, 4, none⟩ = some (.int .i64 a0.core.count) ∧ w'.cell? ⟨w.heap.size, 5, none⟩ = some (t0) ∧ w'.cell? ⟨w.heap.size + 1, 0, none⟩ = some (.string a1.core.kind) ∧ w'.cell? ⟨w.heap.size + 1, 1, none⟩ = some (.bool a1.core.on) ∧ w'.cell? ⟨w.heap.size + 1, 2, none⟩ = some (.bool a1.core.broken) ∧ w'.cell? ⟨w.heap.size + 1, 3, none⟩ = some (s1) ∧ w'.cell? ⟨w.heap.size + 1, 4, none⟩ = some (.int .i64 a1.core.count) ∧ w'.cell? ⟨w.heap.size + 1, 5, none⟩ = some (t1)) (go_keep)
        (first
             | (go_at_call 30;
                 refine (toPart_c _ _ _ _ (by first | exact RdL.below (RdL.below qr0 c6 (Nat.le_refl _)) (And.left (by assumption)) (Nat.le_refl _)) (by first | exact hln0) (by first | exact RdL.below (RdL.below qrl0 c6 (Nat.le_refl _)) (And.left (by assumption)) (Nat.le_refl _)) (by first | exact hll0)).mono ?_;
                 rintro e WX ⟨vX, uX, rfl, oX, pX, nX, bX⟩;
                 (first | (have RA : RdL WX 2 cellEn vX a0.core.cells := oX.rd (fun _ => rfl); have QA : RdL WX 2 layerEn uX a0.layers := pX.rd (fun _ => rfl)));
                 have KWWX : Below W6.heap.size W6 WX := below_then (And.left (by assumption)) bX;
                 have KWX0 : ∀ k : Nat, WX.cell? ⟨W4.heap.size, k, none⟩ = _ := fun k => bX.cell (Nat.lt_of_lt_of_le hy4_6 (Below.size (And.left (by assumption))));
                 have KWX1 : ∀ k : Nat, WX.cell? ⟨W5.heap.size, k, none⟩ = _ := fun k => bX.cell (Nat.lt_of_lt_of_le hy5_6 (Below.size (And.left (by assumption))));
                 have KWX2 : ∀ k : Nat, WX.cell? ⟨w.heap.size, k, none⟩ = _ := fun k => bX.cell (Nat.lt_of_lt_of_le hz0_6 (Below.size (And.left (by assumption))));
                 have KWX3 : ∀ k : Nat, WX.cell? ⟨w.heap.size + 1, k, none⟩ = _ := fun k => bX.cell (Nat.lt_of_lt_of_le hz1_6 (Below.size (And.left (by assumption)))))
             | (go_at_call 25;
                 refine (eqPart_c a0 a0 _ _ _ _ _ rfl (RdL.below r_4 (below_then d4_6 (And.left (by assumption))) (Nat.le_refl _)) (RdL.below rl_4 (below_then d4_6 (And.left (by assumption))) (Nat.le_refl _)) (by first | exact RdL.below RA' (by first | exact Below.refl _ _ | exact (Below.refl _ _).drew | exact (Below.refl _ _).drew.drew | exact (Below.refl _ _).drew.drew.drew) (Nat.le_refl _) | exact RdL.below RA (by first | exact Below.refl _ _ | exact (Below.refl _ _).drew | exact (Below.refl _ _).drew.drew | exact (Below.refl _ _).drew.drew.drew) (Nat.le_refl _)) (by first | exact RdL.below QA' (by first | exact Below.refl _ _ | exact (Below.refl _ _).drew | exact (Below.refl _ _).drew.drew | exact (Below.refl _ _).drew.drew.drew) (Nat.le_refl _) | exact RdL.below QA (by first | exact Below.refl _ _ | exact (Below.refl _ _).drew | exact (Below.refl _ _).drew.drew | exact (Below.refl _ _).drew.drew.drew) (Nat.le_refl _))).mono ?_;
                 rintro e WE0 ⟨rfl, bWE0⟩;
                 have KWWE0 : Below W6.heap.size W6 WE0 := below_then (And.left (by assumption)) bWE0;
                 have KWE00 : ∀ k : Nat, WE0.cell? ⟨W4.heap.size, k, none⟩ = _ := fun k => bWE0.cell (Nat.lt_of_lt_of_le hy4_6 (Below.size (And.left (by assumption))));
                 have KWE01 : ∀ k : Nat, WE0.cell? ⟨W5.heap.size, k, none⟩ = _ := fun k => bWE0.cell (Nat.lt_of_lt_of_le hy5_6 (Below.size (And.left (by assumption))));
                 have KWE02 : ∀ k : Nat, WE0.cell? ⟨w.heap.size, k, none⟩ = _ := fun k => bWE0.cell (Nat.lt_of_lt_of_le hz0_6 (Below.size (And.left (by assumption))));
                 have KWE03 : ∀ k : Nat, WE0.cell? ⟨w.heap.size + 1, k, none⟩ = _ := fun k => bWE0.cell (Nat.lt_of_lt_of_le hz1_6 (Below.size (And.left (by assumption))))))
      clear K0 KD
      have cWE0 : Below w0.heap.size w0 WE0 := below_then c6 KWWE0
      have d5_WE0 : Below W5.heap.size W5 WE0 := below_then d5_6 KWWE0
      have Y5_WE0 := hide ((KWWE0.block W5.heap.size hy5_6).trans Y5_6.out)
      have hy5_WE0 : W5.heap.size < WE0.heap.size := by have := KWWE0.size; omega
      obtain ⟨_, _, _, _, _, _, _⟩ := six_cells Y5_WE0.out
      have hz1_WE0 : w.heap.size + 1 < WE0.heap.size := by have := cWE0.size; omega
      obtain ⟨_, _, _, _, _, _, _⟩ := six_cells (BX1.out _ cWE0)
      go_wp2_with fail
      have K0 : Below WE0.heap.size WE0 WE0 := Below.refl _ _
      have KD : ∀ w' : World, Below WE0.heap.size WE0 w' → Below WE0.heap.size WE0 w'.drew := fun _ h => h.drew
      go_region_held3 (fun w' => Below WE0.heap.size WE0 w' ∧ w'.cell? ⟨W5.heap.size, 0, none⟩ = some (.string a1.core.kind) ∧ w'.cell? ⟨W5.heap.size, 1, none⟩ = some (.bool a1.core.on) ∧ w'.cell? ⟨W5.heap.size, 2, none⟩ = some (.bool a1.core.broken) ∧ w'.cell? ⟨W5.heap.size, 3, none⟩ = some (.slice A5 a1.core.cells.length k5) ∧ w'.cell? ⟨W5.heap.size, 4, none⟩ = some (.int .i64 a1.core.count) ∧ w'.cell? ⟨W5.heap.size, 5, none⟩ = some (.slice B5 a1.layers.length l5) ∧ w'.cell? ⟨w.heap.size + 1, 0, none⟩ = some (.string a1.core.kind) ∧ w'.cell? ⟨w.heap.size + 1, 1, none⟩ = some (.bool a1.core.on) ∧ w'.cell? ⟨w.heap.size + 1, 2, none⟩ = some (.bool a1.core.broken) ∧ w'.cell? ⟨w.heap.size + 1, 3, none⟩ = some (s1) ∧ w'.cell? ⟨w.heap.size + 1, 4, none⟩ = some (.int .i64 a1.core.count) ∧ w'.cell? ⟨w.heap.size + 1, 5, none⟩ = some (t1)) (go_keep)
        (first
             | (go_at_call 30;
                 refine (toPart_c _ _ _ _ (by first | exact RdL.below (RdL.below qr1 cWE0 (Nat.le_refl _)) (And.left (by assumption)) (Nat.le_refl _)) (by first | exact hln1) (by first | exact RdL.below (RdL.below qrl1 cWE0 (Nat.le_refl _)) (And.left (by assumption)) (Nat.le_refl _)) (by first | exact hll1)).mono ?_;
                 rintro e WX ⟨vX, uX, rfl, oX, pX, nX, bX⟩;
                 (first | (have RB : RdL WX 2 cellEn vX a1.core.cells := oX.rd (fun _ => rfl); have QB : RdL WX 2 layerEn uX a1.layers := pX.rd (fun _ => rfl)));
                 have KWWX : Below WE0.heap.size WE0 WX := below_then (And.left (by assumption)) bX;
                 have KWX0 : ∀ k : Nat, WX.cell? ⟨W5.heap.size, k, none⟩ = _ := fun k => bX.cell (Nat.lt_of_lt_of_le hy5_WE0 (Below.size (And.left (by assumption))));
                 have KWX1 : ∀ k : Nat, WX.cell? ⟨w.heap.size + 1, k, none⟩ = _ := fun k => bX.cell (Nat.lt_of_lt_of_le hz1_WE0 (Below.size (And.left (by assumption)))))
             | (go_at_call 25;
                 refine (eqPart_c a1 a1 _ _ _ _ _ rfl (RdL.below r_5 (below_then d5_WE0 (And.left (by assumption))) (Nat.le_refl _)) (RdL.below rl_5 (below_then d5_WE0 (And.left (by assumption))) (Nat.le_refl _)) (by first | exact RdL.below RB' (by first | exact Below.refl _ _ | exact (Below.refl _ _).drew | exact (Below.refl _ _).drew.drew | exact (Below.refl _ _).drew.drew.drew) (Nat.le_refl _) | exact RdL.below RB (by first | exact Below.refl _ _ | exact (Below.refl _ _).drew | exact (Below.refl _ _).drew.drew | exact (Below.refl _ _).drew.drew.drew) (Nat.le_refl _)) (by first | exact RdL.below QB' (by first | exact Below.refl _ _ | exact (Below.refl _ _).drew | exact (Below.refl _ _).drew.drew | exact (Below.refl _ _).drew.drew.drew) (Nat.le_refl _) | exact RdL.below QB (by first | exact Below.refl _ _ | exact (Below.refl _ _).drew | exact (Below.refl _ _).drew.drew | exact (Below.refl _ _).drew.drew.drew) (Nat.le_refl _))).mono ?_;
                 rintro e WE1 ⟨rfl, bWE1⟩;
                 have KWWE1 : Below WE0.heap.size WE0 WE1 := below_then (And.left (by assumption)) bWE1;
                 have KWE10 : ∀ k : Nat, WE1.cell? ⟨W5.heap.size, k, none⟩ = _ := fun k => bWE1.cell (Nat.lt_of_lt_of_le hy5_WE0 (Below.size (And.left (by assumption))));
                 have KWE11 : ∀ k : Nat, WE1.cell? ⟨w.heap.size + 1, k, none⟩ = _ := fun k => bWE1.cell (Nat.lt_of_lt_of_le hz1_WE0 (Below.size (And.left (by assumption))))))
      clear K0 KD
      have cWE1 : Below w0.heap.size w0 WE1 := below_then cWE0 KWWE1
      go_wp2
      go_ret
      exact ⟨rfl, below_then b0 cWE1⟩
    · have hsz1 : Hid (Pu.szPart a1 L1 = -1) := by rw [Hid, Pu.szPart, if_neg hs1]
      clear hL1
      unfold partV
      go_enter Try.func7, Try.ntmps7
      obtain ⟨w0, hw0⟩ : ∃ w0, Hid (((w.alloc (.cells #[.string a0.core.kind, .bool a0.core.on, .bool a0.core.broken, s0, .int .i64 a0.core.count, t0] 49 : Obj)).alloc (.cells #[.string a1.core.kind, .bool a1.core.on, .bool a1.core.broken, s1, .int .i64 a1.core.count, t1] 49 : Obj)) = w0) := ⟨_, rfl⟩
      have b0 : Below w.heap.size w w0 := by rw [← hw0.out]; exact below_alloc (below_alloc (Below.refl _ _) _) _
      have BX0 := hide (show ∀ W : World, Below w0.heap.size w0 W → W.heap[w.heap.size]? = some (.cells #[.string a0.core.kind, .bool a0.core.on, .bool a0.core.broken, s0, .int .i64 a0.core.count, t0] 49 : Obj) from fun W h => (h.block (w.heap.size) (by rw [← hw0.out]; simp <;> omega)).trans (by rw [← hw0.out]; exact heap_old (by simp <;> omega) (heap_new (by simp))))
      have BX1 := hide (show ∀ W : World, Below w0.heap.size w0 W → W.heap[w.heap.size + 1]? = some (.cells #[.string a1.core.kind, .bool a1.core.on, .bool a1.core.broken, s1, .int .i64 a1.core.count, t1] 49 : Obj) from fun W h => (h.block (w.heap.size + 1) (by rw [← hw0.out]; simp <;> omega)).trans (by rw [← hw0.out]; exact heap_new (by simp)))
      have hsw : w.heap.size + 1 < w0.heap.size := by rw [← hw0.out]; simp <;> omega
      go_wp2_with fail
      rw [hw0.out]
      have qr0 := RdL.below r0 b0 (Nat.le_refl _)
      have qrl0 := RdL.below rl0 b0 (Nat.le_refl _)
      have qr1 := RdL.below r1 b0 (Nat.le_refl _)
      have qrl1 := RdL.below rl1 b0 (Nat.le_refl _)
      refine (szPart_c a0 s0 t0 1048576 _ WF0.out (RdCells.below ⟨qr0, Z0.out⟩ (Below.refl _ _)) (RdLayers.below ⟨qrl0, ZL0.out⟩ (Below.refl _ _)) (by omega) (by omega)).mono ?_; rintro e W1 ⟨rfl, b1⟩
      rw [hsz0.out]
      have c1 : Below w0.heap.size w0 W1 := b1
      obtain ⟨_, _, _, _, _, _, _⟩ := six_cells (BX0.out _ c1)
      obtain ⟨_, _, _, _, _, _, _⟩ := six_cells (BX1.out _ c1)
      go_wp2_with fail
      refine (szPart_c a1 s1 t1 L1 _ WF1.out (RdCells.below ⟨qr1, Z1.out⟩ c1) (RdLayers.below ⟨qrl1, ZL1.out⟩ c1) (by omega) (by omega)).mono ?_; rintro e W2 ⟨rfl, b2⟩
      rw [hsz1.out]
      have c2 : Below w0.heap.size w0 W2 := below_then c1 b2
      go_wp2
      go_ret
      exact ⟨rfl, below_then b0 c2⟩
  · have hsz0 : Hid (Pu.szPart a0 1048576 = -1) := by rw [Hid, Pu.szPart, if_neg hs0]
    unfold partV
    go_enter Try.func7, Try.ntmps7
    obtain ⟨w0, hw0⟩ : ∃ w0, Hid (((w.alloc (.cells #[.string a0.core.kind, .bool a0.core.on, .bool a0.core.broken, s0, .int .i64 a0.core.count, t0] 49 : Obj)).alloc (.cells #[.string a1.core.kind, .bool a1.core.on, .bool a1.core.broken, s1, .int .i64 a1.core.count, t1] 49 : Obj)) = w0) := ⟨_, rfl⟩
    have b0 : Below w.heap.size w w0 := by rw [← hw0.out]; exact below_alloc (below_alloc (Below.refl _ _) _) _
    have BX0 := hide (show ∀ W : World, Below w0.heap.size w0 W → W.heap[w.heap.size]? = some (.cells #[.string a0.core.kind, .bool a0.core.on, .bool a0.core.broken, s0, .int .i64 a0.core.count, t0] 49 : Obj) from fun W h => (h.block (w.heap.size) (by rw [← hw0.out]; simp <;> omega)).trans (by rw [← hw0.out]; exact heap_old (by simp <;> omega) (heap_new (by simp))))
    have BX1 := hide (show ∀ W : World, Below w0.heap.size w0 W → W.heap[w.heap.size + 1]? = some (.cells #[.string a1.core.kind, .bool a1.core.on, .bool a1.core.broken, s1, .int .i64 a1.core.count, t1] 49 : Obj) from fun W h => (h.block (w.heap.size + 1) (by rw [← hw0.out]; simp <;> omega)).trans (by rw [← hw0.out]; exact heap_new (by simp)))
    have hsw : w.heap.size + 1 < w0.heap.size := by rw [← hw0.out]; simp <;> omega
    go_wp2_with fail
    rw [hw0.out]
    have qr0 := RdL.below r0 b0 (Nat.le_refl _)
    have qrl0 := RdL.below rl0 b0 (Nat.le_refl _)
    have qr1 := RdL.below r1 b0 (Nat.le_refl _)
    have qrl1 := RdL.below rl1 b0 (Nat.le_refl _)
    refine (szPart_c a0 s0 t0 1048576 _ WF0.out (RdCells.below ⟨qr0, Z0.out⟩ (Below.refl _ _)) (RdLayers.below ⟨qrl0, ZL0.out⟩ (Below.refl _ _)) (by omega) (by omega)).mono ?_; rintro e W1 ⟨rfl, b1⟩
    rw [hsz0.out]
    have c1 : Below w0.heap.size w0 W1 := b1
    go_wp2
    go_ret
    exact ⟨rfl, below_then b0 c1⟩

set_option maxRecDepth 100000 in
theorem lifted (os : Os) (started : os.Started) (H : Type) (enc : TypeId × Value → H) :
    ReturnsInHanded {} Try.checked os 7 .any (Rows.fnExactSamePartSpec.pre6 enc Try.prog Try.f7 Rows.fnExactSamePartRow.domain false) (Rows.fnExactSamePartSpec.post enc Try.prog Try.f7 false true false false) := by
  refine returnsInHanded_of_change (C := Try.checked) own started (by kernel_rfl) Try.func7
    (ChangeSpec.witness6 (enc := enc) (C := Try.checked) false ⟨#[], #[.agg #[.string ByteArray.empty, .bool false, .bool false, .slice none 0 0, .int .i64 0, .slice none 0 0], .agg #[.string ByteArray.empty, .bool false, .bool false, .slice none 0 0, .int .i64 0, .slice none 0 0]], []⟩ 8 (by kernel_rfl) (by kernel_rfl) (by kernel_rfl) (by kernel_rfl)) ?_
  intro W base args ds gs before hval0 hW _ _
  have hval : ∀ (j : Nat) t v, Try.f7.params[j]? = some t → args[j]? = some v → Value.okWide Try.prog W .any base t v := hval0
  have hW' := hW
  obtain ⟨p, q, hA0, hV, rfl, hfz, hnd⟩ := hW
  have hA : DataW.TrodAll enc Try.prog W 0 (fun _ => true) true Try.f7.params.toList args.toList ds p := hA0
  rw [Try.params7] at hA hval
  obtain ⟨v0, vs0, d0, ds0, p0, q0, hargs, rfl, rfl, h0, r0⟩ := trodAll_cons hA
  obtain ⟨v1, vs1, d1, ds1, p1, q1, rfl, rfl, rfl, h1, r1⟩ := trodAll_cons r0
  obtain ⟨rfl, rfl, rfl⟩ := trodAll_nil r1
  obtain rfl : args = #[v0, v1] := by cases args; simp_all
  obtain ⟨rfl, rfl⟩ := trodVars_none hV
  obtain ⟨a0, hv0⟩ := open_part (hval 0 49 v0 rfl rfl) h0
  obtain ⟨a1, hv1⟩ := open_part (hval 1 49 v1 rfl rfl) h1
  refine (walk W v0 a0 hv0 v1 a1 hv1).mono fun e W' ⟨he, hg⟩ => ?_
  subst he
  exact ⟨_, rfl, law_post (tb := 4) (by kernel_rfl) (by kernel_rfl) hW' hg rfl Try.underlying4 rfl rfl rfl rfl⟩

theorem over : Rows.fnExactSamePartRow.holds Try.pinned (OpenSpec.ofChange Rows.fnExactSamePartSpec) :=
  OpenClaim.holds_of_wide 7 Try.f7 rfl rfl rfl rfl rfl rfl rfl ⟨rfl, rfl, rfl, rfl, rfl⟩ rfl rfl rfl rfl rfl (by kernel_rfl) Try.func7 (by kernel_rfl)
    (of_decide_eq_true (by kernel_rfl)) (by unfold Func.isWrapper; first | (rw [if_pos (by decide +kernel)]; kernel_rfl) | (rw [if_neg (by decide +kernel)]; exact ⟨rfl, rfl⟩))
    (fun os started H enc _ => lifted os started H enc)

/-- The statement. -/
theorem proved : Rows.FnExactSamePartSaid :=
  over
#print axioms proved
end Go.Proofs.Ytajoafjkgifblaa.fnExactSamePart
