/- FnExactRecipeOf: for every input the law returns true, and its arguments read afterwards as they read before. No condition besides those of the statement itself. -/
import Derived.Test.YtajoafjkgifblaaLaw
import Derived.Test.YtajoafjkgifblaaRecipe
import Derived.Test.YtajoafjkgifblaaStrs
import Derived.Test.YtajoafjkgifblaaMarkPart
import Derived.Test.YtajoafjkgifblaaOpenPart
import Derived.Test.YtajoafjkgifblaaOpenCore
import Derived.ShutString
namespace Go.Proofs.Ytajoafjkgifblaa.fnExactRecipeOf
open Go.ChangeShapes Go.WideShapes Go.ChangeAt Go.RowKit
open Go.ChangeMaps (open_string shut_string)
set_option linter.unusedVariables false

theorem own : ownKnob Try.prog.godebug = none := by kernel_rfl

set_option maxHeartbeats 2000000 in
/-- The walk: the Go text returns true. -/
theorem walk (w : World) (v0 : Value) (a0 : Pu.PartD) (hv0 : RdPart w v0 a0) :
    Calls Try.prog 9 #[v0] w fun e w' => e = .returned (.bool true) ∧ Below w.heap.size w w' := by
  obtain ⟨wf0, s0, t0, rfl, ⟨r0, z0⟩, rl0, zl0⟩ := hv0
  have Z0 := hide z0
  have ZL0 := hide zl0
  have WF0 := hide wf0
  clear z0 zl0 wf0
  by_cases hs0 : (Pu.totPart a0 : Int) ≤ 1048576
  · have hsz0 : Hid (Pu.szPart a0 1048576 = 1048576 - (Pu.totPart a0 : Int)) := by rw [Hid, Pu.szPart, if_pos hs0]
    obtain ⟨L1, hL1⟩ : ∃ L1 : Int, L1 = 1048576 - (Pu.totPart a0 : Int) := ⟨_, rfl⟩
    rw [← hL1] at hsz0
    have hLa1 : 0 ≤ L1 := by omega
    have hLb1 : L1 ≤ 1048576 := by omega
    have hln0 : a0.core.cells.length ≤ 1048576 := by unfold Pu.totPart Pu.totCore at hs0; omega
    have hll0 : a0.layers.length ≤ 1048576 := by unfold Pu.totPart Pu.totCore at hs0; omega
    clear hL1
    unfold partV
    go_enter Try.func9, Try.ntmps9
    obtain ⟨w0, hw0⟩ : ∃ w0, Hid ((w.alloc (.cells #[.string a0.core.kind, .bool a0.core.on, .bool a0.core.broken, s0, .int .i64 a0.core.count, t0] 49 : Obj)) = w0) := ⟨_, rfl⟩
    have b0 : Below w.heap.size w w0 := by rw [← hw0.out]; exact below_alloc (Below.refl _ _) _
    have BX0 := hide (show ∀ W : World, Below w0.heap.size w0 W → W.heap[w.heap.size]? = some (.cells #[.string a0.core.kind, .bool a0.core.on, .bool a0.core.broken, s0, .int .i64 a0.core.count, t0] 49 : Obj) from fun W h => (h.block (w.heap.size) (by rw [← hw0.out]; simp <;> omega)).trans (by rw [← hw0.out]; exact heap_new (by simp)))
    have hsw : w.heap.size < w0.heap.size := by rw [← hw0.out]; simp <;> omega
    go_wp2_with fail
    rw [hw0.out]
    have qr0 := RdL.below r0 b0 (Nat.le_refl _)
    have qrl0 := RdL.below rl0 b0 (Nat.le_refl _)
    refine (szPart_c a0 s0 t0 1048576 _ WF0.out (RdCells.below ⟨qr0, Z0.out⟩ (Below.refl _ _)) (RdLayers.below ⟨qrl0, ZL0.out⟩ (Below.refl _ _)) (by omega) (by omega)).mono ?_; rintro e W1 ⟨rfl, b1⟩
    rw [hsz0.out]
    have c1 : Below w0.heap.size w0 W1 := b1
    obtain ⟨_, _, _, _, _, _, _⟩ := six_cells (BX0.out _ c1)
    have hb0 : w.heap.size < W1.heap.size := by have := c1.size; omega
    go_wp2_with fail
    refine (toPart_c a0 s0 t0 _ (RdL.below qr0 c1 (Nat.le_refl _)) hln0 (RdL.below qrl0 c1 (Nat.le_refl _)) hll0).mono ?_; rintro e WT ⟨vT, uT, rfl, oT, pT, nT, bT⟩
    have RT : RdL WT 2 cellEn vT a0.core.cells := oT.rd (fun _ => rfl)
    have QT : RdL WT 2 layerEn uT a0.layers := pT.rd (fun _ => rfl)
    have cT : Below w0.heap.size w0 WT := below_then c1 bT
    go_wp2_with fail
    have hlL0 : a0.layers.length ≤ 16777216 := by omega
    refine (sRecipeOf_c a0 _ _ _ QT hlL0).mono ?_; rintro e WC ⟨vS, rfl, oS, bC⟩
    have rS : RdStr WC vS (Pu.recipe a0) := oS.rd (fun _ => rfl)
    have cR : Below w0.heap.size w0 WC := below_then cT bC
    obtain ⟨_, _, _, _, _, _, _⟩ := six_cells (BX0.out _ cR)
    go_wp2_with fail
    refine (toPart_c a0 s0 t0 _ (RdL.below qr0 cR (Nat.le_refl _)) hln0 (RdL.below qrl0 cR (Nat.le_refl _)) hll0).mono ?_; rintro e W3 ⟨v3, u3, rfl, o3, p3, n3, b3⟩
    have r_3 : RdL W3 2 cellEn v3 a0.core.cells := o3.rd (fun _ => rfl)
    have rl_3 : RdL W3 2 layerEn u3 a0.layers := p3.rd (fun _ => rfl)
    have c3 : Below w0.heap.size w0 W3 := below_then cR b3
    obtain ⟨A3, k3, rfl⟩ := o3.shape
    obtain ⟨B3, l3, rfl⟩ := p3.shape
    have hz0_3 : w.heap.size < W3.heap.size := by have := c3.size; omega
    unfold partV
    obtain ⟨_, _, _, _, _, _, _⟩ := six_cells (BX0.out _ c3)
    go_wp2_with fail
    refine (iRecipeOf_c a0 _ _ _ (RdL.below rl_3 (below_alloc (Below.refl _ _) _) (Nat.le_refl _)) hlL0).mono ?_; rintro e W4 ⟨vG, rfl, oG, b4⟩
    have c4 : Below w0.heap.size w0 W4 := below_then (below_alloc c3 _) b4
    have Y3_4 := hide (show W4.heap[W3.heap.size]? = some (.cells #[.string a0.core.kind, .bool a0.core.on, .bool a0.core.broken, .slice A3 a0.core.cells.length k3, .int .i64 a0.core.count, .slice B3 a0.layers.length l3] 41 : Obj) from (b4.block W3.heap.size (by simp)).trans (heap_new rfl))
    have d3_4 : Below W3.heap.size W3 W4 := below_then (below_alloc (Below.refl _ _) _) b4
    have hy3_4 : W3.heap.size < W4.heap.size := by have := b4.size; simp at this; omega
    obtain ⟨_, _, _, _, _, _, _⟩ := six_cells Y3_4.out
    have hz0_4 : w.heap.size < W4.heap.size := by have := c4.size; omega
    have rG : RdStr W4 vG (Pu.recipe a0) := oG.rd (fun _ => rfl)
    have eS : Below WC.heap.size WC W4 := below_then (below_then b3 (below_alloc (Below.refl _ _) _)) b4
    go_wp2_with fail
    refine (eqStringS_c vG vS _ _ rfl _ rG (RdL.below rS eS (Nat.le_refl _))).mono ?_; rintro e WH ⟨rfl, bH⟩
    have dH : Below W3.heap.size W3 WH := below_then d3_4 bH
    have YH := hide ((bH.block W3.heap.size hy3_4).trans Y3_4.out)
    have hyH : W3.heap.size < WH.heap.size := by have := bH.size; omega
    have cH : Below w0.heap.size w0 WH := below_then c4 bH
    have fS : Below WC.heap.size WC WH := below_then eS bH
    have hz0_H : w.heap.size < WH.heap.size := by have := cH.size; omega
    obtain ⟨_, _, _, _, _, _, _⟩ := six_cells YH.out
    obtain ⟨_, _, _, _, _, _, _⟩ := six_cells (BX0.out _ cH)
    go_wp2_with fail
    have K0 : Below WH.heap.size WH WH := Below.refl _ _
    have KD : ∀ w' : World, Below WH.heap.size WH w' → Below WH.heap.size WH w'.drew := fun _ h => h.drew
    go_region_held3 (fun w' => Below WH.heap.size WH w' ∧ w'.cell? ⟨W3.heap.size, 0, none⟩ = some (.string a0.core.kind) ∧ w'.cell? ⟨W3.heap.size, 1, none⟩ = some (.bool a0.core.on) ∧ w'.cell? ⟨W3.heap.size, 2, none⟩ = some (.bool a0.core.broken) ∧ w'.cell? ⟨W3.heap.size, 3, none⟩ = some (.slice A3 a0.core.cells.length k3) ∧ w'.cell? ⟨W3.heap.size, 4, none⟩ = some (.int .i64 a0.core.count) ∧ w'.cell? ⟨W3.heap.size, 5, none⟩ = some (.slice B3 a0.layers.length l3) ∧ w'.cell? ⟨w.heap.size, 0, none⟩ = some (.string a0.core.kind) ∧ w'.cell? ⟨w.heap.size, 1, none⟩ = some (.bool a0.core.on) ∧ w'.cell? ⟨w.heap.size, 2, none⟩ = some (.bool a0.core.broken) ∧ w'.cell? ⟨w.heap.size, 3, none⟩ = some (s0) ∧ w'.cell? ⟨w.heap.size, 4, none⟩ = some (.int .i64 a0.core.count) ∧ w'.cell? ⟨w.heap.size, 5, none⟩ = some (t0)) (go_keep)
      (first
           | (go_at_call 30;
               refine (toPart_c _ _ _ _ (by first | exact RdL.below (RdL.below qr0 cH (Nat.le_refl _)) (And.left (by assumption)) (Nat.le_refl _)) (by first | exact hln0) (by first | exact RdL.below (RdL.below qrl0 cH (Nat.le_refl _)) (And.left (by assumption)) (Nat.le_refl _)) (by first | exact hll0)).mono ?_;
               rintro e WX ⟨vX, uX, rfl, oX, pX, nX, bX⟩;
               (first | (have RA : RdL WX 2 cellEn vX a0.core.cells := oX.rd (fun _ => rfl); have QA : RdL WX 2 layerEn uX a0.layers := pX.rd (fun _ => rfl)));
               have KWWX : Below WH.heap.size WH WX := below_then (And.left (by assumption)) bX;
               have KWX0 : ∀ k : Nat, WX.cell? ⟨W3.heap.size, k, none⟩ = _ := fun k => bX.cell (Nat.lt_of_lt_of_le hyH (Below.size (And.left (by assumption))));
               have KWX1 : ∀ k : Nat, WX.cell? ⟨w.heap.size, k, none⟩ = _ := fun k => bX.cell (Nat.lt_of_lt_of_le hz0_H (Below.size (And.left (by assumption)))))
           | (go_at_call 25;
               refine (eqPart_c a0 a0 _ _ _ _ _ rfl (RdL.below r_3 (below_then dH (And.left (by assumption))) (Nat.le_refl _)) (RdL.below rl_3 (below_then dH (And.left (by assumption))) (Nat.le_refl _)) (by first | exact RdL.below RA' (by first | exact Below.refl _ _ | exact (Below.refl _ _).drew | exact (Below.refl _ _).drew.drew | exact (Below.refl _ _).drew.drew.drew) (Nat.le_refl _) | exact RdL.below RA (by first | exact Below.refl _ _ | exact (Below.refl _ _).drew | exact (Below.refl _ _).drew.drew | exact (Below.refl _ _).drew.drew.drew) (Nat.le_refl _)) (by first | exact RdL.below QA' (by first | exact Below.refl _ _ | exact (Below.refl _ _).drew | exact (Below.refl _ _).drew.drew | exact (Below.refl _ _).drew.drew.drew) (Nat.le_refl _) | exact RdL.below QA (by first | exact Below.refl _ _ | exact (Below.refl _ _).drew | exact (Below.refl _ _).drew.drew | exact (Below.refl _ _).drew.drew.drew) (Nat.le_refl _))).mono ?_;
               rintro e WE0 ⟨rfl, bWE0⟩;
               have KWWE0 : Below WH.heap.size WH WE0 := below_then (And.left (by assumption)) bWE0;
               have KWE00 : ∀ k : Nat, WE0.cell? ⟨W3.heap.size, k, none⟩ = _ := fun k => bWE0.cell (Nat.lt_of_lt_of_le hyH (Below.size (And.left (by assumption))));
               have KWE01 : ∀ k : Nat, WE0.cell? ⟨w.heap.size, k, none⟩ = _ := fun k => bWE0.cell (Nat.lt_of_lt_of_le hz0_H (Below.size (And.left (by assumption))))))
    clear K0 KD
    have cWE0 : Below w0.heap.size w0 WE0 := below_then cH KWWE0
    have fE : Below WC.heap.size WC WE0 := below_then fS KWWE0
    have YE := hide ((KWWE0.block W3.heap.size hyH).trans YH.out)
    have dE : Below W3.heap.size W3 WE0 := below_then dH KWWE0
    have oE := OwnL.below o3 dE (Nat.le_refl _)
    have pE := OwnL.below p3 dE (Nat.le_refl _)
    have gE := OwnL.below oG (below_then bH KWWE0) (Nat.le_refl _)
    have hCE : ∀ g, (Value.slice A3 a0.core.cells.length k3).ownBlock = some g ∨ (Value.slice B3 a0.layers.length l3).ownBlock = some g → g < W3.heap.size := fun g h => by rcases h with h | h; exact (o3.lt h).2; exact (p3.lt h).2
    obtain ⟨_, _, _, _, _, _, _⟩ := six_cells YE.out
    go_wp2_with fail
    refine (markPart_c a0 _ _ _ _ 1 WC.heap.size W3.heap.size _ oE pE n3 hCE dE.size (by omega) (by omega) (by omega) (by omega)).mono ?_; rintro e WM ⟨rfl, oM, pM, wM⟩
    have bM : Below WC.heap.size WE0 WM := wM.below (Nat.le_refl _) fE.size
    have fM : Below WC.heap.size WC WM := fE.trans bM
    have cM : Below w0.heap.size w0 WM := below_then cR fM
    have gM := OwnL.within gE wM (fun g h => .inr (by have h1 := (oG.lt h).1; simp at h1; omega))
    go_wp2_with fail
    refine (eqStringS_c vG vS _ _ rfl _ (gM.rd (fun _ => rfl)) (RdL.below rS fM (Nat.le_refl _))).mono ?_; rintro e WN ⟨rfl, bN⟩
    have fN : Below WC.heap.size WC WN := below_then fM bN
    have gN := OwnL.below gM bN (Nat.le_refl _)
    have hrl : (Pu.recipe a0).length ≤ 4294967296 := by simp [Pu.recipe]; omega
    go_wp2_with fail
    refine (markStringS_c vG _ 1 _ _ gN (by omega) (by omega) hrl).mono ?_; rintro e WP ⟨rfl, gP, hP⟩
    have wP := grown_within gN hP (.inl (Nat.le_refl _))
    have hbG : WC.heap.size ≤ (W3.alloc (.cells #[.string a0.core.kind, .bool a0.core.on, .bool a0.core.broken, .slice A3 a0.core.cells.length k3, .int .i64 a0.core.count, .slice B3 a0.layers.length l3] 41)).heap.size := by have := b3.size; simp; omega
    have fP : Below WC.heap.size WC WP := fN.trans (wP.below hbG fN.size)
    have cP : Below w0.heap.size w0 WP := below_then cR fP
    have rP : RdStr WP vG _ := gP.rd (fun _ => rfl)
    have hq0 : ¬ (1 + ((Pu.recipe a0).length : Int)) < 0 := by omega
    go_wp2_with fail
    refine (heldStringS_c vG _ 1 _ rP (by omega) (by omega) hrl).mono ?_; rintro e WQ ⟨rfl, bQ⟩
    have cQ : Below w0.heap.size w0 WQ := below_then cP bQ
    obtain ⟨_, _, _, _, _, _, _⟩ := six_cells (BX0.out _ cQ)
    go_wp2_with fail
    refine (toPart_c a0 s0 t0 _ (RdL.below qr0 cQ (Nat.le_refl _)) hln0 (RdL.below qrl0 cQ (Nat.le_refl _)) hll0).mono ?_; rintro e WR ⟨vR, uR, rfl, oR, pR, nR, bR⟩
    have RR : RdL WR 2 cellEn vR a0.core.cells := oR.rd (fun _ => rfl)
    have QR : RdL WR 2 layerEn uR a0.layers := pR.rd (fun _ => rfl)
    go_wp2_with fail
    refine (iRecipeOf_c a0 _ _ _ QR hlL0).mono ?_; rintro e WU ⟨vU, rfl, oU, bU⟩
    have fU : Below WC.heap.size WC WU := below_then (below_then (below_then fP bQ) bR) bU
    go_wp2_with fail
    refine (eqStringS_c vU vS _ _ rfl _ (oU.rd (fun _ => rfl)) (RdL.below rS fU (Nat.le_refl _))).mono ?_; rintro e WV ⟨rfl, bV⟩
    have eP : Below WP.heap.size WP WV := below_then (below_then (below_then bQ bR) bU) bV
    go_wp2_with fail
    refine (heldStringS_c vG _ 1 _ (RdL.below rP eP (Nat.le_refl _)) (by omega) (by omega) hrl).mono ?_; rintro e WY ⟨rfl, bY⟩
    go_wp2
    go_ret
    exact ⟨rfl, below_then b0 (below_then cR (below_then (below_then fU bV) bY))⟩
  · have hsz0 : Hid (Pu.szPart a0 1048576 = -1) := by rw [Hid, Pu.szPart, if_neg hs0]
    unfold partV
    go_enter Try.func9, Try.ntmps9
    obtain ⟨w0, hw0⟩ : ∃ w0, Hid ((w.alloc (.cells #[.string a0.core.kind, .bool a0.core.on, .bool a0.core.broken, s0, .int .i64 a0.core.count, t0] 49 : Obj)) = w0) := ⟨_, rfl⟩
    have b0 : Below w.heap.size w w0 := by rw [← hw0.out]; exact below_alloc (Below.refl _ _) _
    have BX0 := hide (show ∀ W : World, Below w0.heap.size w0 W → W.heap[w.heap.size]? = some (.cells #[.string a0.core.kind, .bool a0.core.on, .bool a0.core.broken, s0, .int .i64 a0.core.count, t0] 49 : Obj) from fun W h => (h.block (w.heap.size) (by rw [← hw0.out]; simp <;> omega)).trans (by rw [← hw0.out]; exact heap_new (by simp)))
    have hsw : w.heap.size < w0.heap.size := by rw [← hw0.out]; simp <;> omega
    go_wp2_with fail
    rw [hw0.out]
    have qr0 := RdL.below r0 b0 (Nat.le_refl _)
    have qrl0 := RdL.below rl0 b0 (Nat.le_refl _)
    refine (szPart_c a0 s0 t0 1048576 _ WF0.out (RdCells.below ⟨qr0, Z0.out⟩ (Below.refl _ _)) (RdLayers.below ⟨qrl0, ZL0.out⟩ (Below.refl _ _)) (by omega) (by omega)).mono ?_; rintro e W1 ⟨rfl, b1⟩
    rw [hsz0.out]
    have c1 : Below w0.heap.size w0 W1 := b1
    go_wp2
    go_ret
    exact ⟨rfl, below_then b0 c1⟩

set_option maxRecDepth 100000 in
theorem lifted (os : Os) (started : os.Started) (H : Type) (enc : TypeId × Value → H) :
    ReturnsInHanded {} Try.checked os 9 .any (Rows.fnExactRecipeOfSpec.pre6 enc Try.prog Try.f9 Rows.fnExactRecipeOfRow.domain false) (Rows.fnExactRecipeOfSpec.post enc Try.prog Try.f9 false true false false) := by
  refine returnsInHanded_of_change (C := Try.checked) own started (by kernel_rfl) Try.func9
    (ChangeSpec.witness6 (enc := enc) (C := Try.checked) false ⟨#[], #[.agg #[.string ByteArray.empty, .bool false, .bool false, .slice none 0 0, .int .i64 0, .slice none 0 0]], []⟩ 8 (by kernel_rfl) (by kernel_rfl) (by kernel_rfl) (by kernel_rfl)) ?_
  intro W base args ds gs before hval0 hW _ _
  have hval : ∀ (j : Nat) t v, Try.f9.params[j]? = some t → args[j]? = some v → Value.okWide Try.prog W .any base t v := hval0
  have hW' := hW
  obtain ⟨p, q, hA0, hV, rfl, hfz, hnd⟩ := hW
  have hA : DataW.TrodAll enc Try.prog W 0 (fun _ => true) true Try.f9.params.toList args.toList ds p := hA0
  rw [Try.params9] at hA hval
  obtain ⟨v0, vs0, d0, ds0, p0, q0, hargs, rfl, rfl, h0, r0⟩ := trodAll_cons hA
  obtain ⟨rfl, rfl, rfl⟩ := trodAll_nil r0
  obtain rfl : args = #[v0] := by cases args; simp_all
  obtain ⟨rfl, rfl⟩ := trodVars_none hV
  obtain ⟨a0, hv0⟩ := open_part (hval 0 49 v0 rfl rfl) h0
  refine (walk W v0 a0 hv0).mono fun e W' ⟨he, hg⟩ => ?_
  subst he
  exact ⟨_, rfl, law_post (tb := 4) (by kernel_rfl) (by kernel_rfl) hW' hg rfl Try.underlying4 rfl rfl rfl rfl⟩

theorem over : Rows.fnExactRecipeOfRow.holds Try.pinned (OpenSpec.ofChange Rows.fnExactRecipeOfSpec) :=
  OpenClaim.holds_of_wide 9 Try.f9 rfl rfl rfl rfl rfl rfl rfl ⟨rfl, rfl, rfl, rfl, rfl⟩ rfl rfl rfl rfl rfl (by kernel_rfl) Try.func9 (by kernel_rfl)
    (of_decide_eq_true (by kernel_rfl)) (by unfold Func.isWrapper; first | (rw [if_pos (by decide +kernel)]; kernel_rfl) | (rw [if_neg (by decide +kernel)]; exact ⟨rfl, rfl⟩))
    (fun os started H enc _ => lifted os started H enc)

/-- The statement. -/
theorem proved : Rows.FnExactRecipeOfSaid :=
  over
#print axioms proved
end Go.Proofs.Ytajoafjkgifblaa.fnExactRecipeOf
