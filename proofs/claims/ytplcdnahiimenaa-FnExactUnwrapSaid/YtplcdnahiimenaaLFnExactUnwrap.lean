/- FnExactUnwrap: for every input the law returns true, and its arguments read afterwards as they read before. No condition besides those of the statement itself. -/
import Derived.Test.YtplcdnahiimenaaLaw
import Derived.Test.YtplcdnahiimenaaWrap
import Derived.Test.YtplcdnahiimenaaMarkPart
import Derived.Test.YtplcdnahiimenaaOpenPart
import Derived.ShutString
namespace Go.Proofs.Ytplcdnahiimenaa.fnExactUnwrap
open Go.ChangeShapes Go.WideShapes Go.ChangeAt Go.RowKit
set_option maxRecDepth 100000
open Go.ChangeMaps (open_string shut_string)
set_option linter.unusedVariables false

theorem own : ownKnob Try.prog.godebug = none := by kernel_rfl

set_option maxHeartbeats 4000000 in
/-- The walk: the Go text returns true. -/
theorem walk (w : World) (v0 : Value) (a0 : Pu.PartD) (hv0 : RdPart w v0 a0) :
    Calls Try.prog 6 #[v0] w fun e w' => e = .returned (.bool true) ∧ Below w.heap.size w w' := by
  obtain ⟨wf0, s0, t0, rfl, ⟨r0, z0⟩, rl0, zl0⟩ := hv0
  have Z0 := hide z0
  have ZL0 := hide zl0
  have WF0 := hide wf0
  clear z0 zl0 wf0
  by_cases hs : (Pu.totPart a0 : Int) ≤ 1048576
  · have hsz : Hid (Pu.szPart a0 1048576 = 1048576 - (Pu.totPart a0 : Int)) := by rw [Hid, Pu.szPart, if_pos hs]
    have hln0 : a0.core.cells.length ≤ 1048576 := by unfold Pu.totPart Pu.totCore at hs; omega
    have hll0 : a0.layers.length ≤ 1048576 := by unfold Pu.totPart Pu.totCore at hs; omega
    obtain ⟨hq1, hq2⟩ : (Pu.unwrapP a0).core.cells.length ≤ 2097152 ∧ (Pu.unwrapP a0).layers.length ≤ 2097152 := Pu.unwrapP_len hln0 hll0
    unfold partV
    go_enter Try.func6, Try.ntmps6
    obtain ⟨w0, hw0⟩ : ∃ w0, Hid (w.alloc (.cells #[.string a0.core.kind, .bool a0.core.on, .bool a0.core.broken, s0, .int .i64 a0.core.count, t0] 58 : Obj) = w0) := ⟨_, rfl⟩
    have b0 : Below w.heap.size w w0 := by rw [← hw0.out]; exact below_alloc (Below.refl _ _) _
    have YP := hide (show w0.heap[w.heap.size]? = some (.cells #[.string a0.core.kind, .bool a0.core.on, .bool a0.core.broken, s0, .int .i64 a0.core.count, t0] 58 : Obj) by rw [← hw0.out]; exact heap_new rfl)
    go_wp2_with fail
    rw [hw0.out]
    have q0 := RdL.below r0 b0 (Nat.le_refl _)
    have q1 := RdL.below rl0 b0 (Nat.le_refl _)
    refine (szPart_c a0 s0 t0 1048576 _ WF0.out (RdCells.below ⟨q0, Z0.out⟩ (Below.refl _ _)) (RdLayers.below ⟨q1, ZL0.out⟩ (Below.refl _ _)) (by omega) (by omega)).mono ?_; rintro e W1 ⟨rfl, b1⟩
    rw [hsz.out]
    have Y1 := hide (show W1.heap[w.heap.size]? = some (.cells #[.string a0.core.kind, .bool a0.core.on, .bool a0.core.broken, s0, .int .i64 a0.core.count, t0] 58 : Obj) from (b1.block (w.heap.size) (Nat.lt_of_lt_of_le ((Array.getElem?_eq_some_iff.1 YP.out).1) (by simp <;> omega))).trans YP.out)
    have e2 : Below w0.heap.size w0 W1 := below_then (Below.refl _ _) b1
    have z3 : w.heap.size < W1.heap.size := (Array.getElem?_eq_some_iff.1 Y1.out).1
    obtain ⟨_, _, _, _, _, _, _⟩ := six_cells Y1.out
    go_wp2_with fail
    refine (toPart_c a0 s0 t0 _ (RdL.below q0 e2 (Nat.le_refl _)) hln0 (RdL.below q1 e2 (Nat.le_refl _)) hll0).mono ?_; rintro e WT ⟨vT, uT, rfl, oT, pT, nT, bT⟩
    have Y4 := hide (show WT.heap[w.heap.size]? = some (.cells #[.string a0.core.kind, .bool a0.core.on, .bool a0.core.broken, s0, .int .i64 a0.core.count, t0] 58 : Obj) from (bT.block (w.heap.size) (Nat.lt_of_lt_of_le ((Array.getElem?_eq_some_iff.1 Y1.out).1) (by simp <;> omega))).trans Y1.out)
    have e5 : Below w0.heap.size w0 WT := below_then e2 bT
    have rT : RdL WT 2 cellEn vT a0.core.cells := oT.rd (fun _ => rfl)
    have rlT : RdL WT 2 layerEn uT a0.layers := pT.rd (fun _ => rfl)
    go_wp2_with fail
    refine (sUnwrap_c a0 _ _ _ WF0.out ⟨(RdL.below rT (Below.refl _ _) (Nat.le_refl _)), Z0.out⟩ (RdL.below rlT (Below.refl _ _) (Nat.le_refl _)) (by omega) (by omega)).mono ?_; rintro e WS ⟨⟨vS, uS, rfl, oS, pS, nS⟩, bS⟩
    obtain ⟨AS, kS, rfl⟩ := oS.shape
    obtain ⟨BS, lS, rfl⟩ := pS.shape
    unfold partV
    have Y6 := hide (show WS.heap[w.heap.size]? = some (.cells #[.string a0.core.kind, .bool a0.core.on, .bool a0.core.broken, s0, .int .i64 a0.core.count, t0] 58 : Obj) from (bS.block (w.heap.size) (Nat.lt_of_lt_of_le ((Array.getElem?_eq_some_iff.1 Y4.out).1) (by simp <;> omega))).trans Y4.out)
    have e7 : Below w0.heap.size w0 WS := below_then e5 bS
    have e8 : Below WT.heap.size WT WS := below_then (Below.refl _ _) bS
    have rS : RdL WS 2 cellEn (.slice AS (Pu.unwrapP a0).core.cells.length kS) (Pu.unwrapP a0).core.cells := oS.rd (fun _ => rfl)
    have rlS : RdL WS 2 layerEn (.slice BS (Pu.unwrapP a0).layers.length lS) (Pu.unwrapP a0).layers := pS.rd (fun _ => rfl)
    have z9 : w.heap.size < WS.heap.size := (Array.getElem?_eq_some_iff.1 Y6.out).1
    obtain ⟨_, _, _, _, _, _, _⟩ := six_cells Y6.out
    go_wp2_with fail
    refine (toPart_c a0 s0 t0 _ (RdL.below q0 (below_alloc e7 _) (Nat.le_refl _)) hln0 (RdL.below q1 (below_alloc e7 _) (Nat.le_refl _)) hll0).mono ?_; rintro e WX ⟨vX, uX, rfl, oX, pX, nX, bX⟩
    have Y10 := hide (show WX.heap[w.heap.size]? = some (.cells #[.string a0.core.kind, .bool a0.core.on, .bool a0.core.broken, s0, .int .i64 a0.core.count, t0] 58 : Obj) from (bX.block (w.heap.size) (Nat.lt_of_lt_of_le ((Array.getElem?_eq_some_iff.1 Y6.out).1) (by simp <;> omega))).trans (heap_old ((Array.getElem?_eq_some_iff.1 Y6.out).1) Y6.out))
    have Y11 := hide (show WX.heap[WS.heap.size]? = some (.cells #[.string (Pu.unwrapP a0).core.kind, .bool (Pu.unwrapP a0).core.on, .bool (Pu.unwrapP a0).core.broken, .slice AS (Pu.unwrapP a0).core.cells.length kS, .int .i64 (Pu.unwrapP a0).core.count, .slice BS (Pu.unwrapP a0).layers.length lS] 37 : Obj) from (bX.block (WS.heap.size) (by simp <;> omega)).trans (heap_new (by simp)))
    have e12 : Below w0.heap.size w0 WX := below_then (below_alloc e7 _) bX
    have e13 : Below WT.heap.size WT WX := below_then (below_alloc e8 _) bX
    have e14 : Below WS.heap.size WS WX := below_then (below_alloc (Below.refl _ _) _) bX
    have rX : RdL WX 2 cellEn vX a0.core.cells := oX.rd (fun _ => rfl)
    have rlX : RdL WX 2 layerEn uX a0.layers := pX.rd (fun _ => rfl)
    obtain ⟨AX, kX, rfl⟩ := oX.shape
    obtain ⟨BX, lX, rfl⟩ := pX.shape
    unfold partV
    have z15 : w.heap.size < WX.heap.size := (Array.getElem?_eq_some_iff.1 Y10.out).1
    obtain ⟨_, _, _, _, _, _, _⟩ := six_cells Y10.out
    have z16 : WS.heap.size < WX.heap.size := (Array.getElem?_eq_some_iff.1 Y11.out).1
    obtain ⟨_, _, _, _, _, _, _⟩ := six_cells Y11.out
    go_wp2_with fail
    refine (iUnwrap_c a0 _ _ _ WF0.out ⟨(RdL.below rX (below_alloc (Below.refl _ _) _) (Nat.le_refl _)), Z0.out⟩ (RdL.below rlX (below_alloc (Below.refl _ _) _) (Nat.le_refl _)) (by omega) (by omega)).mono ?_; rintro e WG ⟨⟨vG, uG, rfl, oG, pG, nG⟩, bG⟩
    obtain ⟨AG, kG, rfl⟩ := oG.shape
    obtain ⟨BG, lG, rfl⟩ := pG.shape
    unfold partV
    have Y17 := hide (show WG.heap[w.heap.size]? = some (.cells #[.string a0.core.kind, .bool a0.core.on, .bool a0.core.broken, s0, .int .i64 a0.core.count, t0] 58 : Obj) from (bG.block (w.heap.size) (Nat.lt_of_lt_of_le ((Array.getElem?_eq_some_iff.1 Y10.out).1) (by simp <;> omega))).trans (heap_old ((Array.getElem?_eq_some_iff.1 Y10.out).1) Y10.out))
    have Y18 := hide (show WG.heap[WS.heap.size]? = some (.cells #[.string (Pu.unwrapP a0).core.kind, .bool (Pu.unwrapP a0).core.on, .bool (Pu.unwrapP a0).core.broken, .slice AS (Pu.unwrapP a0).core.cells.length kS, .int .i64 (Pu.unwrapP a0).core.count, .slice BS (Pu.unwrapP a0).layers.length lS] 37 : Obj) from (bG.block (WS.heap.size) (Nat.lt_of_lt_of_le ((Array.getElem?_eq_some_iff.1 Y11.out).1) (by simp <;> omega))).trans (heap_old ((Array.getElem?_eq_some_iff.1 Y11.out).1) Y11.out))
    have Y19 := hide (show WG.heap[WX.heap.size]? = some (.cells #[.string a0.core.kind, .bool a0.core.on, .bool a0.core.broken, .slice AX a0.core.cells.length kX, .int .i64 a0.core.count, .slice BX a0.layers.length lX] 37 : Obj) from (bG.block (WX.heap.size) (by simp <;> omega)).trans (heap_new (by simp)))
    have e20 : Below w0.heap.size w0 WG := below_then (below_alloc e12 _) bG
    have e21 : Below WT.heap.size WT WG := below_then (below_alloc e13 _) bG
    have e22 : Below WS.heap.size WS WG := below_then (below_alloc e14 _) bG
    have e23 : Below WX.heap.size WX WG := below_then (below_alloc (Below.refl _ _) _) bG
    have rG : RdL WG 2 cellEn (.slice AG (Pu.unwrapP a0).core.cells.length kG) (Pu.unwrapP a0).core.cells := oG.rd (fun _ => rfl)
    have rlG : RdL WG 2 layerEn (.slice BG (Pu.unwrapP a0).layers.length lG) (Pu.unwrapP a0).layers := pG.rd (fun _ => rfl)
    have z24 : w.heap.size < WG.heap.size := (Array.getElem?_eq_some_iff.1 Y17.out).1
    obtain ⟨_, _, _, _, _, _, _⟩ := six_cells Y17.out
    have z25 : WS.heap.size < WG.heap.size := (Array.getElem?_eq_some_iff.1 Y18.out).1
    obtain ⟨_, _, _, _, _, _, _⟩ := six_cells Y18.out
    have z26 : WX.heap.size < WG.heap.size := (Array.getElem?_eq_some_iff.1 Y19.out).1
    obtain ⟨_, _, _, _, _, _, _⟩ := six_cells Y19.out
    go_wp2_with fail
    refine (eqPart_c (Pu.unwrapP a0) (Pu.unwrapP a0) _ _ _ _ _ rfl (RdL.below rG (below_alloc (Below.refl _ _) _) (Nat.le_refl _)) (RdL.below rlG (below_alloc (Below.refl _ _) _) (Nat.le_refl _)) (RdL.below rS (below_alloc e22 _) (Nat.le_refl _)) (RdL.below rlS (below_alloc e22 _) (Nat.le_refl _))).mono ?_; rintro e WH ⟨rfl, bWH⟩
    have Y27 := hide (show WH.heap[w.heap.size]? = some (.cells #[.string a0.core.kind, .bool a0.core.on, .bool a0.core.broken, s0, .int .i64 a0.core.count, t0] 58 : Obj) from (bWH.block (w.heap.size) (Nat.lt_of_lt_of_le ((Array.getElem?_eq_some_iff.1 Y17.out).1) (by simp <;> omega))).trans (heap_old ((Array.getElem?_eq_some_iff.1 Y17.out).1) Y17.out))
    have Y28 := hide (show WH.heap[WS.heap.size]? = some (.cells #[.string (Pu.unwrapP a0).core.kind, .bool (Pu.unwrapP a0).core.on, .bool (Pu.unwrapP a0).core.broken, .slice AS (Pu.unwrapP a0).core.cells.length kS, .int .i64 (Pu.unwrapP a0).core.count, .slice BS (Pu.unwrapP a0).layers.length lS] 37 : Obj) from (bWH.block (WS.heap.size) (Nat.lt_of_lt_of_le ((Array.getElem?_eq_some_iff.1 Y18.out).1) (by simp <;> omega))).trans (heap_old ((Array.getElem?_eq_some_iff.1 Y18.out).1) Y18.out))
    have Y29 := hide (show WH.heap[WX.heap.size]? = some (.cells #[.string a0.core.kind, .bool a0.core.on, .bool a0.core.broken, .slice AX a0.core.cells.length kX, .int .i64 a0.core.count, .slice BX a0.layers.length lX] 37 : Obj) from (bWH.block (WX.heap.size) (Nat.lt_of_lt_of_le ((Array.getElem?_eq_some_iff.1 Y19.out).1) (by simp <;> omega))).trans (heap_old ((Array.getElem?_eq_some_iff.1 Y19.out).1) Y19.out))
    have Y30 := hide (show WH.heap[WG.heap.size]? = some (.cells #[.string (Pu.unwrapP a0).core.kind, .bool (Pu.unwrapP a0).core.on, .bool (Pu.unwrapP a0).core.broken, .slice AG (Pu.unwrapP a0).core.cells.length kG, .int .i64 (Pu.unwrapP a0).core.count, .slice BG (Pu.unwrapP a0).layers.length lG] 37 : Obj) from (bWH.block (WG.heap.size) (by simp <;> omega)).trans (heap_new (by simp)))
    have e31 : Below w0.heap.size w0 WH := below_then (below_alloc e20 _) bWH
    have e32 : Below WT.heap.size WT WH := below_then (below_alloc e21 _) bWH
    have e33 : Below WS.heap.size WS WH := below_then (below_alloc e22 _) bWH
    have e34 : Below WX.heap.size WX WH := below_then (below_alloc e23 _) bWH
    have e35 : Below WG.heap.size WG WH := below_then (below_alloc (Below.refl _ _) _) bWH
    have z36 : w.heap.size < WH.heap.size := (Array.getElem?_eq_some_iff.1 Y27.out).1
    obtain ⟨_, _, _, _, _, _, _⟩ := six_cells Y27.out
    have z37 : WS.heap.size < WH.heap.size := (Array.getElem?_eq_some_iff.1 Y28.out).1
    obtain ⟨_, _, _, _, _, _, _⟩ := six_cells Y28.out
    have z38 : WX.heap.size < WH.heap.size := (Array.getElem?_eq_some_iff.1 Y29.out).1
    obtain ⟨_, _, _, _, _, _, _⟩ := six_cells Y29.out
    have z39 : WG.heap.size < WH.heap.size := (Array.getElem?_eq_some_iff.1 Y30.out).1
    obtain ⟨_, _, _, _, _, _, _⟩ := six_cells Y30.out
    go_wp2_with fail
    have K0 : Below WH.heap.size WH WH := Below.refl _ _
    have KD : ∀ w' : World, Below WH.heap.size WH w' → Below WH.heap.size WH w'.drew := fun _ h => h.drew
    go_region_held3 (fun w' => Below WH.heap.size WH w' ∧ w'.cell? ⟨WX.heap.size, 0, none⟩ = some (.string a0.core.kind) ∧ w'.cell? ⟨WX.heap.size, 1, none⟩ = some (.bool a0.core.on) ∧ w'.cell? ⟨WX.heap.size, 2, none⟩ = some (.bool a0.core.broken) ∧ w'.cell? ⟨WX.heap.size, 3, none⟩ = some (.slice AX a0.core.cells.length kX) ∧ w'.cell? ⟨WX.heap.size, 4, none⟩ = some (.int .i64 a0.core.count) ∧ w'.cell? ⟨WX.heap.size, 5, none⟩ = some (.slice BX a0.layers.length lX) ∧ w'.cell? ⟨w.heap.size, 0, none⟩ = some (.string a0.core.kind) ∧ w'.cell? ⟨w.heap.size, 1, none⟩ = some (.bool a0.core.on) ∧ w'.cell? ⟨w.heap.size, 2, none⟩ = some (.bool a0.core.broken) ∧ w'.cell? ⟨w.heap.size, 3, none⟩ = some (s0) ∧ w'.cell? ⟨w.heap.size, 4, none⟩ = some (.int .i64 a0.core.count) ∧ w'.cell? ⟨w.heap.size, 5, none⟩ = some (t0)) (go_keep)
      (first
           | (go_at_call 30;
               refine (toPart_c a0 _ _ _ (RdL.below (RdL.below q0 e31 (Nat.le_refl _)) (And.left (by assumption)) (Nat.le_refl _)) hln0 (RdL.below (RdL.below q1 e31 (Nat.le_refl _)) (And.left (by assumption)) (Nat.le_refl _)) hll0).mono ?_;
               rintro e WZ ⟨vZ, uZ, rfl, oZ, pZ, nZ, bZ⟩;
               have RZ : RdL WZ 2 cellEn vZ a0.core.cells := oZ.rd (fun _ => rfl);
               have QZ : RdL WZ 2 layerEn uZ a0.layers := pZ.rd (fun _ => rfl);
               have KWWZ : Below WH.heap.size WH WZ := below_then (And.left (by assumption)) bZ;
               have KWZ0 : ∀ k : Nat, WZ.cell? ⟨WX.heap.size, k, none⟩ = _ := fun k => bZ.cell (Nat.lt_of_lt_of_le z38 (Below.size (And.left (by assumption))));
               have KWZ1 : ∀ k : Nat, WZ.cell? ⟨w.heap.size, k, none⟩ = _ := fun k => bZ.cell (Nat.lt_of_lt_of_le z36 (Below.size (And.left (by assumption)))))
           | (go_at_call 31;
               refine (eqPart_c a0 a0 _ _ _ _ _ rfl (RdL.below rX (below_then e34 (And.left (by assumption))) (Nat.le_refl _)) (RdL.below rlX (below_then e34 (And.left (by assumption))) (Nat.le_refl _)) (by first | exact RdL.below RZ (by first | exact Below.refl _ _ | exact (Below.refl _ _).drew | exact (Below.refl _ _).drew.drew | exact (Below.refl _ _).drew.drew.drew) (Nat.le_refl _)) (by first | exact RdL.below QZ (by first | exact Below.refl _ _ | exact (Below.refl _ _).drew | exact (Below.refl _ _).drew.drew | exact (Below.refl _ _).drew.drew.drew) (Nat.le_refl _))).mono ?_;
               rintro e WE ⟨rfl, bWE⟩;
               have KWWE : Below WH.heap.size WH WE := below_then (And.left (by assumption)) bWE;
               have KWE0 : ∀ k : Nat, WE.cell? ⟨WX.heap.size, k, none⟩ = _ := fun k => bWE.cell (Nat.lt_of_lt_of_le z38 (Below.size (And.left (by assumption))));
               have KWE1 : ∀ k : Nat, WE.cell? ⟨w.heap.size, k, none⟩ = _ := fun k => bWE.cell (Nat.lt_of_lt_of_le z36 (Below.size (And.left (by assumption))))))
    clear K0 KD
    have Y40 := hide (show WE.heap[w.heap.size]? = some (.cells #[.string a0.core.kind, .bool a0.core.on, .bool a0.core.broken, s0, .int .i64 a0.core.count, t0] 58 : Obj) from (KWWE.block (w.heap.size) (Nat.lt_of_lt_of_le ((Array.getElem?_eq_some_iff.1 Y27.out).1) (by simp <;> omega))).trans Y27.out)
    have Y41 := hide (show WE.heap[WS.heap.size]? = some (.cells #[.string (Pu.unwrapP a0).core.kind, .bool (Pu.unwrapP a0).core.on, .bool (Pu.unwrapP a0).core.broken, .slice AS (Pu.unwrapP a0).core.cells.length kS, .int .i64 (Pu.unwrapP a0).core.count, .slice BS (Pu.unwrapP a0).layers.length lS] 37 : Obj) from (KWWE.block (WS.heap.size) (Nat.lt_of_lt_of_le ((Array.getElem?_eq_some_iff.1 Y28.out).1) (by simp <;> omega))).trans Y28.out)
    have Y42 := hide (show WE.heap[WX.heap.size]? = some (.cells #[.string a0.core.kind, .bool a0.core.on, .bool a0.core.broken, .slice AX a0.core.cells.length kX, .int .i64 a0.core.count, .slice BX a0.layers.length lX] 37 : Obj) from (KWWE.block (WX.heap.size) (Nat.lt_of_lt_of_le ((Array.getElem?_eq_some_iff.1 Y29.out).1) (by simp <;> omega))).trans Y29.out)
    have Y43 := hide (show WE.heap[WG.heap.size]? = some (.cells #[.string (Pu.unwrapP a0).core.kind, .bool (Pu.unwrapP a0).core.on, .bool (Pu.unwrapP a0).core.broken, .slice AG (Pu.unwrapP a0).core.cells.length kG, .int .i64 (Pu.unwrapP a0).core.count, .slice BG (Pu.unwrapP a0).layers.length lG] 37 : Obj) from (KWWE.block (WG.heap.size) (Nat.lt_of_lt_of_le ((Array.getElem?_eq_some_iff.1 Y30.out).1) (by simp <;> omega))).trans Y30.out)
    have e44 : Below w0.heap.size w0 WE := below_then e31 KWWE
    have e45 : Below WT.heap.size WT WE := below_then e32 KWWE
    have e46 : Below WS.heap.size WS WE := below_then e33 KWWE
    have e47 : Below WX.heap.size WX WE := below_then e34 KWWE
    have e48 : Below WG.heap.size WG WE := below_then e35 KWWE
    have z49 : w.heap.size < WE.heap.size := (Array.getElem?_eq_some_iff.1 Y40.out).1
    obtain ⟨_, _, _, _, _, _, _⟩ := six_cells Y40.out
    have z50 : WS.heap.size < WE.heap.size := (Array.getElem?_eq_some_iff.1 Y41.out).1
    obtain ⟨_, _, _, _, _, _, _⟩ := six_cells Y41.out
    have z51 : WX.heap.size < WE.heap.size := (Array.getElem?_eq_some_iff.1 Y42.out).1
    obtain ⟨_, _, _, _, _, _, _⟩ := six_cells Y42.out
    have z52 : WG.heap.size < WE.heap.size := (Array.getElem?_eq_some_iff.1 Y43.out).1
    obtain ⟨_, _, _, _, _, _, _⟩ := six_cells Y43.out
    have gE := OwnL.below oG e48 (Nat.le_refl _)
    have hE := OwnL.below pG e48 (Nat.le_refl _)
    have xE := OwnL.below oX e47 (Nat.le_refl _)
    go_wp2_with fail
    have yE := OwnL.below pX e47 (Nat.le_refl _)
    have hCE : ∀ g, (Value.slice AX a0.core.cells.length kX).ownBlock = some g ∨ (Value.slice BX a0.layers.length lX).ownBlock = some g → g < WX.heap.size := fun g h => by rcases h with h | h; exact (oX.lt h).2; exact (pX.lt h).2
    refine (markPart_c a0 _ _ _ _ 1 _ WX.heap.size _ xE yE nX hCE (Below.size e47) (by omega) (by omega) (by omega) (by omega)).mono ?_; rintro e WM ⟨rfl, oM, pM, wM⟩
    have gXs : WS.heap.size ≤ WX.heap.size := by have := bX.size; simp at this; omega
    have gWs : WX.heap.size ≤ WG.heap.size := by have := bG.size; simp at this; omega
    have wM1 : Within (WS.heap.size + 1) WX.heap.size WE WM := wM.mono (by simp) (Nat.le_refl _)
    have bM : Below WS.heap.size WE WM := wM1.below (by omega) (Below.size e46)
    have gTS : W1.heap.size ≤ WS.heap.size := by have h1 := bT.size; have h2 := bS.size; omega
    have g01 : w0.heap.size ≤ W1.heap.size := b1.size
    have gP : w.heap.size < WS.heap.size := by have := (Array.getElem?_eq_some_iff.1 YP.out).1; omega
    have Y53 := hide (show WM.heap[w.heap.size]? = some (.cells #[.string a0.core.kind, .bool a0.core.on, .bool a0.core.broken, s0, .int .i64 a0.core.count, t0] 58 : Obj) from (wM1.block (w.heap.size) (Array.getElem?_eq_some_iff.1 Y40.out).1 (by first | exact .inl (by omega) | exact .inr (by omega))).trans Y40.out)
    have Y54 := hide (show WM.heap[WS.heap.size]? = some (.cells #[.string (Pu.unwrapP a0).core.kind, .bool (Pu.unwrapP a0).core.on, .bool (Pu.unwrapP a0).core.broken, .slice AS (Pu.unwrapP a0).core.cells.length kS, .int .i64 (Pu.unwrapP a0).core.count, .slice BS (Pu.unwrapP a0).layers.length lS] 37 : Obj) from (wM1.block (WS.heap.size) (Array.getElem?_eq_some_iff.1 Y41.out).1 (by first | exact .inl (by omega) | exact .inr (by omega))).trans Y41.out)
    have Y55 := hide (show WM.heap[WX.heap.size]? = some (.cells #[.string a0.core.kind, .bool a0.core.on, .bool a0.core.broken, .slice AX a0.core.cells.length kX, .int .i64 a0.core.count, .slice BX a0.layers.length lX] 37 : Obj) from (wM1.block (WX.heap.size) (Array.getElem?_eq_some_iff.1 Y42.out).1 (by first | exact .inl (by omega) | exact .inr (by omega))).trans Y42.out)
    have Y56 := hide (show WM.heap[WG.heap.size]? = some (.cells #[.string (Pu.unwrapP a0).core.kind, .bool (Pu.unwrapP a0).core.on, .bool (Pu.unwrapP a0).core.broken, .slice AG (Pu.unwrapP a0).core.cells.length kG, .int .i64 (Pu.unwrapP a0).core.count, .slice BG (Pu.unwrapP a0).layers.length lG] 37 : Obj) from (wM1.block (WG.heap.size) (Array.getElem?_eq_some_iff.1 Y43.out).1 (by first | exact .inl (by omega) | exact .inr (by omega))).trans Y43.out)
    have e57 : Below w0.heap.size w0 WM := Below.trans e44 (bM.mono (by first | exact Nat.le_refl _ | omega))
    have e58 : Below WS.heap.size WS WM := Below.trans e46 (bM.mono (by first | exact Nat.le_refl _ | omega))
    have gM1 := OwnL.within gE wM1 (fun g h => .inr (by have h1 := (oG.lt h).1; try simp at h1; omega))
    have hM1 := OwnL.within hE wM1 (fun g h => .inr (by have h1 := (pG.lt h).1; try simp at h1; omega))
    have rM1 : RdL WM 2 cellEn (.slice AG (Pu.unwrapP a0).core.cells.length kG) (Pu.unwrapP a0).core.cells := gM1.rd (fun _ => rfl)
    have rlM1 : RdL WM 2 layerEn (.slice BG (Pu.unwrapP a0).layers.length lG) (Pu.unwrapP a0).layers := hM1.rd (fun _ => rfl)
    have z59 : w.heap.size < WM.heap.size := (Array.getElem?_eq_some_iff.1 Y53.out).1
    obtain ⟨_, _, _, _, _, _, _⟩ := six_cells Y53.out
    have z60 : WS.heap.size < WM.heap.size := (Array.getElem?_eq_some_iff.1 Y54.out).1
    obtain ⟨_, _, _, _, _, _, _⟩ := six_cells Y54.out
    have z61 : WX.heap.size < WM.heap.size := (Array.getElem?_eq_some_iff.1 Y55.out).1
    obtain ⟨_, _, _, _, _, _, _⟩ := six_cells Y55.out
    have z62 : WG.heap.size < WM.heap.size := (Array.getElem?_eq_some_iff.1 Y56.out).1
    obtain ⟨_, _, _, _, _, _, _⟩ := six_cells Y56.out
    go_wp2_with fail
    refine (eqPart_c (Pu.unwrapP a0) (Pu.unwrapP a0) _ _ _ _ _ rfl rM1 rlM1 (RdL.below rS e58 (Nat.le_refl _)) (RdL.below rlS e58 (Nat.le_refl _))).mono ?_; rintro e WN ⟨rfl, bWN⟩
    have Y63 := hide (show WN.heap[w.heap.size]? = some (.cells #[.string a0.core.kind, .bool a0.core.on, .bool a0.core.broken, s0, .int .i64 a0.core.count, t0] 58 : Obj) from (bWN.block (w.heap.size) (Nat.lt_of_lt_of_le ((Array.getElem?_eq_some_iff.1 Y53.out).1) (by simp <;> omega))).trans Y53.out)
    have Y64 := hide (show WN.heap[WS.heap.size]? = some (.cells #[.string (Pu.unwrapP a0).core.kind, .bool (Pu.unwrapP a0).core.on, .bool (Pu.unwrapP a0).core.broken, .slice AS (Pu.unwrapP a0).core.cells.length kS, .int .i64 (Pu.unwrapP a0).core.count, .slice BS (Pu.unwrapP a0).layers.length lS] 37 : Obj) from (bWN.block (WS.heap.size) (Nat.lt_of_lt_of_le ((Array.getElem?_eq_some_iff.1 Y54.out).1) (by simp <;> omega))).trans Y54.out)
    have Y65 := hide (show WN.heap[WX.heap.size]? = some (.cells #[.string a0.core.kind, .bool a0.core.on, .bool a0.core.broken, .slice AX a0.core.cells.length kX, .int .i64 a0.core.count, .slice BX a0.layers.length lX] 37 : Obj) from (bWN.block (WX.heap.size) (Nat.lt_of_lt_of_le ((Array.getElem?_eq_some_iff.1 Y55.out).1) (by simp <;> omega))).trans Y55.out)
    have Y66 := hide (show WN.heap[WG.heap.size]? = some (.cells #[.string (Pu.unwrapP a0).core.kind, .bool (Pu.unwrapP a0).core.on, .bool (Pu.unwrapP a0).core.broken, .slice AG (Pu.unwrapP a0).core.cells.length kG, .int .i64 (Pu.unwrapP a0).core.count, .slice BG (Pu.unwrapP a0).layers.length lG] 37 : Obj) from (bWN.block (WG.heap.size) (Nat.lt_of_lt_of_le ((Array.getElem?_eq_some_iff.1 Y56.out).1) (by simp <;> omega))).trans Y56.out)
    have e67 : Below w0.heap.size w0 WN := below_then e57 bWN
    have e68 : Below WS.heap.size WS WN := below_then e58 bWN
    have bMN : Below WM.heap.size WM WN := bWN
    have gN := OwnL.below gM1 bMN (Nat.le_refl _)
    have hN := OwnL.below hM1 bMN (Nat.le_refl _)
    have z69 : w.heap.size < WN.heap.size := (Array.getElem?_eq_some_iff.1 Y63.out).1
    obtain ⟨_, _, _, _, _, _, _⟩ := six_cells Y63.out
    have z70 : WS.heap.size < WN.heap.size := (Array.getElem?_eq_some_iff.1 Y64.out).1
    obtain ⟨_, _, _, _, _, _, _⟩ := six_cells Y64.out
    have z71 : WX.heap.size < WN.heap.size := (Array.getElem?_eq_some_iff.1 Y65.out).1
    obtain ⟨_, _, _, _, _, _, _⟩ := six_cells Y65.out
    have z72 : WG.heap.size < WN.heap.size := (Array.getElem?_eq_some_iff.1 Y66.out).1
    obtain ⟨_, _, _, _, _, _, _⟩ := six_cells Y66.out
    go_wp2_with fail
    have hCN : ∀ g, (Value.slice AG (Pu.unwrapP a0).core.cells.length kG).ownBlock = some g ∨ (Value.slice BG (Pu.unwrapP a0).layers.length lG).ownBlock = some g → g < WG.heap.size := fun g h => by rcases h with h | h; exact (oG.lt h).2; exact (pG.lt h).2
    have gWG : WG.heap.size ≤ WN.heap.size := by have h1 := wM.size; have h2 := bMN.size; have h3 := (Below.size e48); omega
    refine (markPart_c (Pu.unwrapP a0) _ _ _ _ 1 _ WG.heap.size _ gN hN nG hCN gWG (by omega) (by omega) (by omega) (by omega)).mono ?_; rintro e WQ ⟨rfl, oQ, pQ, wQ⟩
    have wQ1 : Within (WX.heap.size + 1) WG.heap.size WN WQ := wQ.mono (by simp) (Nat.le_refl _)
    have bQ : Below WX.heap.size WN WQ := wQ1.below (by omega) (by omega)
    have Y73 := hide (show WQ.heap[w.heap.size]? = some (.cells #[.string a0.core.kind, .bool a0.core.on, .bool a0.core.broken, s0, .int .i64 a0.core.count, t0] 58 : Obj) from (wQ1.block (w.heap.size) (Array.getElem?_eq_some_iff.1 Y63.out).1 (by first | exact .inl (by omega) | exact .inr (by omega))).trans Y63.out)
    have Y74 := hide (show WQ.heap[WS.heap.size]? = some (.cells #[.string (Pu.unwrapP a0).core.kind, .bool (Pu.unwrapP a0).core.on, .bool (Pu.unwrapP a0).core.broken, .slice AS (Pu.unwrapP a0).core.cells.length kS, .int .i64 (Pu.unwrapP a0).core.count, .slice BS (Pu.unwrapP a0).layers.length lS] 37 : Obj) from (wQ1.block (WS.heap.size) (Array.getElem?_eq_some_iff.1 Y64.out).1 (by first | exact .inl (by omega) | exact .inr (by omega))).trans Y64.out)
    have Y75 := hide (show WQ.heap[WX.heap.size]? = some (.cells #[.string a0.core.kind, .bool a0.core.on, .bool a0.core.broken, .slice AX a0.core.cells.length kX, .int .i64 a0.core.count, .slice BX a0.layers.length lX] 37 : Obj) from (wQ1.block (WX.heap.size) (Array.getElem?_eq_some_iff.1 Y65.out).1 (by first | exact .inl (by omega) | exact .inr (by omega))).trans Y65.out)
    have Y76 := hide (show WQ.heap[WG.heap.size]? = some (.cells #[.string (Pu.unwrapP a0).core.kind, .bool (Pu.unwrapP a0).core.on, .bool (Pu.unwrapP a0).core.broken, .slice AG (Pu.unwrapP a0).core.cells.length kG, .int .i64 (Pu.unwrapP a0).core.count, .slice BG (Pu.unwrapP a0).layers.length lG] 37 : Obj) from (wQ1.block (WG.heap.size) (Array.getElem?_eq_some_iff.1 Y66.out).1 (by first | exact .inl (by omega) | exact .inr (by omega))).trans Y66.out)
    have e77 : Below w0.heap.size w0 WQ := Below.trans e67 (bQ.mono (by first | exact Nat.le_refl _ | omega))
    have e78 : Below WS.heap.size WS WQ := Below.trans e68 (bQ.mono (by first | exact Nat.le_refl _ | omega))
    have rQ : RdL WQ 2 cellEn (.slice AG (Pu.unwrapP a0).core.cells.length kG) (Pu.gen (Pu.gC 1) (Pu.unwrapP a0).core.cells.length) := oQ.rd (fun _ => rfl)
    have rlQ : RdL WQ 2 layerEn (.slice BG (Pu.unwrapP a0).layers.length lG) (Pu.gen (Pu.gL (1 + 2 * (Pu.unwrapP a0).core.cells.length)) (Pu.unwrapP a0).layers.length) := pQ.rd (fun _ => rfl)
    have hk0 : ¬ (1 + 2 * ((Pu.unwrapP a0).core.cells.length : Int) + 2 * ((Pu.unwrapP a0).layers.length : Int)) < 0 := by omega
    have z79 : w.heap.size < WQ.heap.size := (Array.getElem?_eq_some_iff.1 Y73.out).1
    obtain ⟨_, _, _, _, _, _, _⟩ := six_cells Y73.out
    have z80 : WS.heap.size < WQ.heap.size := (Array.getElem?_eq_some_iff.1 Y74.out).1
    obtain ⟨_, _, _, _, _, _, _⟩ := six_cells Y74.out
    have z81 : WX.heap.size < WQ.heap.size := (Array.getElem?_eq_some_iff.1 Y75.out).1
    obtain ⟨_, _, _, _, _, _, _⟩ := six_cells Y75.out
    have z82 : WG.heap.size < WQ.heap.size := (Array.getElem?_eq_some_iff.1 Y76.out).1
    obtain ⟨_, _, _, _, _, _, _⟩ := six_cells Y76.out
    go_wp2_with fail
    refine (heldPart_c (Pu.unwrapP a0) _ _ _ _ 1 _ (RdL.below rQ (Below.refl _ _) (Nat.le_refl _)) (RdL.below rlQ (Below.refl _ _) (Nat.le_refl _)) (by omega) (by omega) (by omega) (by omega)).mono ?_; rintro e WU ⟨rfl, bWU⟩
    have Y83 := hide (show WU.heap[w.heap.size]? = some (.cells #[.string a0.core.kind, .bool a0.core.on, .bool a0.core.broken, s0, .int .i64 a0.core.count, t0] 58 : Obj) from (bWU.block (w.heap.size) (Nat.lt_of_lt_of_le ((Array.getElem?_eq_some_iff.1 Y73.out).1) (by simp <;> omega))).trans Y73.out)
    have Y84 := hide (show WU.heap[WS.heap.size]? = some (.cells #[.string (Pu.unwrapP a0).core.kind, .bool (Pu.unwrapP a0).core.on, .bool (Pu.unwrapP a0).core.broken, .slice AS (Pu.unwrapP a0).core.cells.length kS, .int .i64 (Pu.unwrapP a0).core.count, .slice BS (Pu.unwrapP a0).layers.length lS] 37 : Obj) from (bWU.block (WS.heap.size) (Nat.lt_of_lt_of_le ((Array.getElem?_eq_some_iff.1 Y74.out).1) (by simp <;> omega))).trans Y74.out)
    have Y85 := hide (show WU.heap[WX.heap.size]? = some (.cells #[.string a0.core.kind, .bool a0.core.on, .bool a0.core.broken, .slice AX a0.core.cells.length kX, .int .i64 a0.core.count, .slice BX a0.layers.length lX] 37 : Obj) from (bWU.block (WX.heap.size) (Nat.lt_of_lt_of_le ((Array.getElem?_eq_some_iff.1 Y75.out).1) (by simp <;> omega))).trans Y75.out)
    have Y86 := hide (show WU.heap[WG.heap.size]? = some (.cells #[.string (Pu.unwrapP a0).core.kind, .bool (Pu.unwrapP a0).core.on, .bool (Pu.unwrapP a0).core.broken, .slice AG (Pu.unwrapP a0).core.cells.length kG, .int .i64 (Pu.unwrapP a0).core.count, .slice BG (Pu.unwrapP a0).layers.length lG] 37 : Obj) from (bWU.block (WG.heap.size) (Nat.lt_of_lt_of_le ((Array.getElem?_eq_some_iff.1 Y76.out).1) (by simp <;> omega))).trans Y76.out)
    have e87 : Below w0.heap.size w0 WU := below_then e77 bWU
    have e88 : Below WS.heap.size WS WU := below_then e78 bWU
    have e89 : Below WQ.heap.size WQ WU := below_then (Below.refl _ _) bWU
    have z90 : w.heap.size < WU.heap.size := (Array.getElem?_eq_some_iff.1 Y83.out).1
    obtain ⟨_, _, _, _, _, _, _⟩ := six_cells Y83.out
    have z91 : WS.heap.size < WU.heap.size := (Array.getElem?_eq_some_iff.1 Y84.out).1
    obtain ⟨_, _, _, _, _, _, _⟩ := six_cells Y84.out
    have z92 : WX.heap.size < WU.heap.size := (Array.getElem?_eq_some_iff.1 Y85.out).1
    obtain ⟨_, _, _, _, _, _, _⟩ := six_cells Y85.out
    have z93 : WG.heap.size < WU.heap.size := (Array.getElem?_eq_some_iff.1 Y86.out).1
    obtain ⟨_, _, _, _, _, _, _⟩ := six_cells Y86.out
    have z94 : w.heap.size < WU.heap.size := (Array.getElem?_eq_some_iff.1 Y83.out).1
    obtain ⟨_, _, _, _, _, _, _⟩ := six_cells Y83.out
    go_wp2_with fail
    refine (toPart_c a0 s0 t0 _ (RdL.below q0 e87 (Nat.le_refl _)) hln0 (RdL.below q1 e87 (Nat.le_refl _)) hll0).mono ?_; rintro e WV ⟨vV, uV, rfl, oV, pV, nV, bV⟩
    have Y95 := hide (show WV.heap[w.heap.size]? = some (.cells #[.string a0.core.kind, .bool a0.core.on, .bool a0.core.broken, s0, .int .i64 a0.core.count, t0] 58 : Obj) from (bV.block (w.heap.size) (Nat.lt_of_lt_of_le ((Array.getElem?_eq_some_iff.1 Y83.out).1) (by simp <;> omega))).trans Y83.out)
    have Y96 := hide (show WV.heap[WS.heap.size]? = some (.cells #[.string (Pu.unwrapP a0).core.kind, .bool (Pu.unwrapP a0).core.on, .bool (Pu.unwrapP a0).core.broken, .slice AS (Pu.unwrapP a0).core.cells.length kS, .int .i64 (Pu.unwrapP a0).core.count, .slice BS (Pu.unwrapP a0).layers.length lS] 37 : Obj) from (bV.block (WS.heap.size) (Nat.lt_of_lt_of_le ((Array.getElem?_eq_some_iff.1 Y84.out).1) (by simp <;> omega))).trans Y84.out)
    have Y97 := hide (show WV.heap[WX.heap.size]? = some (.cells #[.string a0.core.kind, .bool a0.core.on, .bool a0.core.broken, .slice AX a0.core.cells.length kX, .int .i64 a0.core.count, .slice BX a0.layers.length lX] 37 : Obj) from (bV.block (WX.heap.size) (Nat.lt_of_lt_of_le ((Array.getElem?_eq_some_iff.1 Y85.out).1) (by simp <;> omega))).trans Y85.out)
    have Y98 := hide (show WV.heap[WG.heap.size]? = some (.cells #[.string (Pu.unwrapP a0).core.kind, .bool (Pu.unwrapP a0).core.on, .bool (Pu.unwrapP a0).core.broken, .slice AG (Pu.unwrapP a0).core.cells.length kG, .int .i64 (Pu.unwrapP a0).core.count, .slice BG (Pu.unwrapP a0).layers.length lG] 37 : Obj) from (bV.block (WG.heap.size) (Nat.lt_of_lt_of_le ((Array.getElem?_eq_some_iff.1 Y86.out).1) (by simp <;> omega))).trans Y86.out)
    have e99 : Below w0.heap.size w0 WV := below_then e87 bV
    have e100 : Below WS.heap.size WS WV := below_then e88 bV
    have e101 : Below WQ.heap.size WQ WV := below_then e89 bV
    have rV : RdL WV 2 cellEn vV a0.core.cells := oV.rd (fun _ => rfl)
    have rlV : RdL WV 2 layerEn uV a0.layers := pV.rd (fun _ => rfl)
    go_wp2_with fail
    refine (iUnwrap_c a0 _ _ _ WF0.out ⟨(RdL.below rV (Below.refl _ _) (Nat.le_refl _)), Z0.out⟩ (RdL.below rlV (Below.refl _ _) (Nat.le_refl _)) (by omega) (by omega)).mono ?_; rintro e WL ⟨⟨vL, uL, rfl, oL, pL, nL⟩, bL⟩
    obtain ⟨AL, kL, rfl⟩ := oL.shape
    obtain ⟨BL, lL, rfl⟩ := pL.shape
    unfold partV
    have Y102 := hide (show WL.heap[w.heap.size]? = some (.cells #[.string a0.core.kind, .bool a0.core.on, .bool a0.core.broken, s0, .int .i64 a0.core.count, t0] 58 : Obj) from (bL.block (w.heap.size) (Nat.lt_of_lt_of_le ((Array.getElem?_eq_some_iff.1 Y95.out).1) (by simp <;> omega))).trans Y95.out)
    have Y103 := hide (show WL.heap[WS.heap.size]? = some (.cells #[.string (Pu.unwrapP a0).core.kind, .bool (Pu.unwrapP a0).core.on, .bool (Pu.unwrapP a0).core.broken, .slice AS (Pu.unwrapP a0).core.cells.length kS, .int .i64 (Pu.unwrapP a0).core.count, .slice BS (Pu.unwrapP a0).layers.length lS] 37 : Obj) from (bL.block (WS.heap.size) (Nat.lt_of_lt_of_le ((Array.getElem?_eq_some_iff.1 Y96.out).1) (by simp <;> omega))).trans Y96.out)
    have Y104 := hide (show WL.heap[WX.heap.size]? = some (.cells #[.string a0.core.kind, .bool a0.core.on, .bool a0.core.broken, .slice AX a0.core.cells.length kX, .int .i64 a0.core.count, .slice BX a0.layers.length lX] 37 : Obj) from (bL.block (WX.heap.size) (Nat.lt_of_lt_of_le ((Array.getElem?_eq_some_iff.1 Y97.out).1) (by simp <;> omega))).trans Y97.out)
    have Y105 := hide (show WL.heap[WG.heap.size]? = some (.cells #[.string (Pu.unwrapP a0).core.kind, .bool (Pu.unwrapP a0).core.on, .bool (Pu.unwrapP a0).core.broken, .slice AG (Pu.unwrapP a0).core.cells.length kG, .int .i64 (Pu.unwrapP a0).core.count, .slice BG (Pu.unwrapP a0).layers.length lG] 37 : Obj) from (bL.block (WG.heap.size) (Nat.lt_of_lt_of_le ((Array.getElem?_eq_some_iff.1 Y98.out).1) (by simp <;> omega))).trans Y98.out)
    have e106 : Below w0.heap.size w0 WL := below_then e99 bL
    have e107 : Below WS.heap.size WS WL := below_then e100 bL
    have e108 : Below WQ.heap.size WQ WL := below_then e101 bL
    have e109 : Below WV.heap.size WV WL := below_then (Below.refl _ _) bL
    have rL : RdL WL 2 cellEn (.slice AL (Pu.unwrapP a0).core.cells.length kL) (Pu.unwrapP a0).core.cells := oL.rd (fun _ => rfl)
    have rlL : RdL WL 2 layerEn (.slice BL (Pu.unwrapP a0).layers.length lL) (Pu.unwrapP a0).layers := pL.rd (fun _ => rfl)
    have z110 : w.heap.size < WL.heap.size := (Array.getElem?_eq_some_iff.1 Y102.out).1
    obtain ⟨_, _, _, _, _, _, _⟩ := six_cells Y102.out
    have z111 : WS.heap.size < WL.heap.size := (Array.getElem?_eq_some_iff.1 Y103.out).1
    obtain ⟨_, _, _, _, _, _, _⟩ := six_cells Y103.out
    have z112 : WX.heap.size < WL.heap.size := (Array.getElem?_eq_some_iff.1 Y104.out).1
    obtain ⟨_, _, _, _, _, _, _⟩ := six_cells Y104.out
    have z113 : WG.heap.size < WL.heap.size := (Array.getElem?_eq_some_iff.1 Y105.out).1
    obtain ⟨_, _, _, _, _, _, _⟩ := six_cells Y105.out
    go_wp2_with fail
    refine (eqPart_c (Pu.unwrapP a0) (Pu.unwrapP a0) _ _ _ _ _ rfl (RdL.below rL (below_alloc (Below.refl _ _) _) (Nat.le_refl _)) (RdL.below rlL (below_alloc (Below.refl _ _) _) (Nat.le_refl _)) (RdL.below rS (below_alloc e107 _) (Nat.le_refl _)) (RdL.below rlS (below_alloc e107 _) (Nat.le_refl _))).mono ?_; rintro e WO ⟨rfl, bWO⟩
    have Y114 := hide (show WO.heap[w.heap.size]? = some (.cells #[.string a0.core.kind, .bool a0.core.on, .bool a0.core.broken, s0, .int .i64 a0.core.count, t0] 58 : Obj) from (bWO.block (w.heap.size) (Nat.lt_of_lt_of_le ((Array.getElem?_eq_some_iff.1 Y102.out).1) (by simp <;> omega))).trans (heap_old ((Array.getElem?_eq_some_iff.1 Y102.out).1) Y102.out))
    have Y115 := hide (show WO.heap[WS.heap.size]? = some (.cells #[.string (Pu.unwrapP a0).core.kind, .bool (Pu.unwrapP a0).core.on, .bool (Pu.unwrapP a0).core.broken, .slice AS (Pu.unwrapP a0).core.cells.length kS, .int .i64 (Pu.unwrapP a0).core.count, .slice BS (Pu.unwrapP a0).layers.length lS] 37 : Obj) from (bWO.block (WS.heap.size) (Nat.lt_of_lt_of_le ((Array.getElem?_eq_some_iff.1 Y103.out).1) (by simp <;> omega))).trans (heap_old ((Array.getElem?_eq_some_iff.1 Y103.out).1) Y103.out))
    have Y116 := hide (show WO.heap[WX.heap.size]? = some (.cells #[.string a0.core.kind, .bool a0.core.on, .bool a0.core.broken, .slice AX a0.core.cells.length kX, .int .i64 a0.core.count, .slice BX a0.layers.length lX] 37 : Obj) from (bWO.block (WX.heap.size) (Nat.lt_of_lt_of_le ((Array.getElem?_eq_some_iff.1 Y104.out).1) (by simp <;> omega))).trans (heap_old ((Array.getElem?_eq_some_iff.1 Y104.out).1) Y104.out))
    have Y117 := hide (show WO.heap[WG.heap.size]? = some (.cells #[.string (Pu.unwrapP a0).core.kind, .bool (Pu.unwrapP a0).core.on, .bool (Pu.unwrapP a0).core.broken, .slice AG (Pu.unwrapP a0).core.cells.length kG, .int .i64 (Pu.unwrapP a0).core.count, .slice BG (Pu.unwrapP a0).layers.length lG] 37 : Obj) from (bWO.block (WG.heap.size) (Nat.lt_of_lt_of_le ((Array.getElem?_eq_some_iff.1 Y105.out).1) (by simp <;> omega))).trans (heap_old ((Array.getElem?_eq_some_iff.1 Y105.out).1) Y105.out))
    have Y118 := hide (show WO.heap[WL.heap.size]? = some (.cells #[.string (Pu.unwrapP a0).core.kind, .bool (Pu.unwrapP a0).core.on, .bool (Pu.unwrapP a0).core.broken, .slice AL (Pu.unwrapP a0).core.cells.length kL, .int .i64 (Pu.unwrapP a0).core.count, .slice BL (Pu.unwrapP a0).layers.length lL] 37 : Obj) from (bWO.block (WL.heap.size) (by simp <;> omega)).trans (heap_new (by simp)))
    have e119 : Below w0.heap.size w0 WO := below_then (below_alloc e106 _) bWO
    have e120 : Below WS.heap.size WS WO := below_then (below_alloc e107 _) bWO
    have e121 : Below WQ.heap.size WQ WO := below_then (below_alloc e108 _) bWO
    have e122 : Below WV.heap.size WV WO := below_then (below_alloc e109 _) bWO
    have e123 : Below WL.heap.size WL WO := below_then (below_alloc (Below.refl _ _) _) bWO
    have z124 : w.heap.size < WO.heap.size := (Array.getElem?_eq_some_iff.1 Y114.out).1
    obtain ⟨_, _, _, _, _, _, _⟩ := six_cells Y114.out
    have z125 : WS.heap.size < WO.heap.size := (Array.getElem?_eq_some_iff.1 Y115.out).1
    obtain ⟨_, _, _, _, _, _, _⟩ := six_cells Y115.out
    have z126 : WX.heap.size < WO.heap.size := (Array.getElem?_eq_some_iff.1 Y116.out).1
    obtain ⟨_, _, _, _, _, _, _⟩ := six_cells Y116.out
    have z127 : WG.heap.size < WO.heap.size := (Array.getElem?_eq_some_iff.1 Y117.out).1
    obtain ⟨_, _, _, _, _, _, _⟩ := six_cells Y117.out
    have z128 : WL.heap.size < WO.heap.size := (Array.getElem?_eq_some_iff.1 Y118.out).1
    obtain ⟨_, _, _, _, _, _, _⟩ := six_cells Y118.out
    go_wp2_with fail
    refine (heldPart_c (Pu.unwrapP a0) _ _ _ _ 1 _ (RdL.below rQ e121 (Nat.le_refl _)) (RdL.below rlQ e121 (Nat.le_refl _)) (by omega) (by omega) (by omega) (by omega)).mono ?_; rintro e WJ ⟨rfl, bWJ⟩
    have Y129 := hide (show WJ.heap[w.heap.size]? = some (.cells #[.string a0.core.kind, .bool a0.core.on, .bool a0.core.broken, s0, .int .i64 a0.core.count, t0] 58 : Obj) from (bWJ.block (w.heap.size) (Nat.lt_of_lt_of_le ((Array.getElem?_eq_some_iff.1 Y114.out).1) (by simp <;> omega))).trans Y114.out)
    have Y130 := hide (show WJ.heap[WS.heap.size]? = some (.cells #[.string (Pu.unwrapP a0).core.kind, .bool (Pu.unwrapP a0).core.on, .bool (Pu.unwrapP a0).core.broken, .slice AS (Pu.unwrapP a0).core.cells.length kS, .int .i64 (Pu.unwrapP a0).core.count, .slice BS (Pu.unwrapP a0).layers.length lS] 37 : Obj) from (bWJ.block (WS.heap.size) (Nat.lt_of_lt_of_le ((Array.getElem?_eq_some_iff.1 Y115.out).1) (by simp <;> omega))).trans Y115.out)
    have Y131 := hide (show WJ.heap[WX.heap.size]? = some (.cells #[.string a0.core.kind, .bool a0.core.on, .bool a0.core.broken, .slice AX a0.core.cells.length kX, .int .i64 a0.core.count, .slice BX a0.layers.length lX] 37 : Obj) from (bWJ.block (WX.heap.size) (Nat.lt_of_lt_of_le ((Array.getElem?_eq_some_iff.1 Y116.out).1) (by simp <;> omega))).trans Y116.out)
    have Y132 := hide (show WJ.heap[WG.heap.size]? = some (.cells #[.string (Pu.unwrapP a0).core.kind, .bool (Pu.unwrapP a0).core.on, .bool (Pu.unwrapP a0).core.broken, .slice AG (Pu.unwrapP a0).core.cells.length kG, .int .i64 (Pu.unwrapP a0).core.count, .slice BG (Pu.unwrapP a0).layers.length lG] 37 : Obj) from (bWJ.block (WG.heap.size) (Nat.lt_of_lt_of_le ((Array.getElem?_eq_some_iff.1 Y117.out).1) (by simp <;> omega))).trans Y117.out)
    have Y133 := hide (show WJ.heap[WL.heap.size]? = some (.cells #[.string (Pu.unwrapP a0).core.kind, .bool (Pu.unwrapP a0).core.on, .bool (Pu.unwrapP a0).core.broken, .slice AL (Pu.unwrapP a0).core.cells.length kL, .int .i64 (Pu.unwrapP a0).core.count, .slice BL (Pu.unwrapP a0).layers.length lL] 37 : Obj) from (bWJ.block (WL.heap.size) (Nat.lt_of_lt_of_le ((Array.getElem?_eq_some_iff.1 Y118.out).1) (by simp <;> omega))).trans Y118.out)
    have e134 : Below w0.heap.size w0 WJ := below_then e119 bWJ
    have e135 : Below WS.heap.size WS WJ := below_then e120 bWJ
    have e136 : Below WQ.heap.size WQ WJ := below_then e121 bWJ
    have e137 : Below WV.heap.size WV WJ := below_then e122 bWJ
    have e138 : Below WL.heap.size WL WJ := below_then e123 bWJ
    go_wp2
    go_ret
    exact ⟨rfl, below_then b0 e134⟩
  · have hsz : Hid (Pu.szPart a0 1048576 = -1) := by rw [Hid, Pu.szPart, if_neg hs]
    unfold partV
    go_enter Try.func6, Try.ntmps6
    obtain ⟨w0, hw0⟩ : ∃ w0, Hid (w.alloc (.cells #[.string a0.core.kind, .bool a0.core.on, .bool a0.core.broken, s0, .int .i64 a0.core.count, t0] 58 : Obj) = w0) := ⟨_, rfl⟩
    have b0 : Below w.heap.size w w0 := by rw [← hw0.out]; exact below_alloc (Below.refl _ _) _
    have YP := hide (show w0.heap[w.heap.size]? = some (.cells #[.string a0.core.kind, .bool a0.core.on, .bool a0.core.broken, s0, .int .i64 a0.core.count, t0] 58 : Obj) by rw [← hw0.out]; exact heap_new rfl)
    go_wp2_with fail
    rw [hw0.out]
    have q0 := RdL.below r0 b0 (Nat.le_refl _)
    have q1 := RdL.below rl0 b0 (Nat.le_refl _)
    refine (szPart_c a0 s0 t0 1048576 _ WF0.out (RdCells.below ⟨q0, Z0.out⟩ (Below.refl _ _)) (RdLayers.below ⟨q1, ZL0.out⟩ (Below.refl _ _)) (by omega) (by omega)).mono ?_; rintro e W1 ⟨rfl, b1⟩
    rw [hsz.out]
    have Y139 := hide (show W1.heap[w.heap.size]? = some (.cells #[.string a0.core.kind, .bool a0.core.on, .bool a0.core.broken, s0, .int .i64 a0.core.count, t0] 58 : Obj) from (b1.block (w.heap.size) (Nat.lt_of_lt_of_le ((Array.getElem?_eq_some_iff.1 YP.out).1) (by simp <;> omega))).trans YP.out)
    have e140 : Below w0.heap.size w0 W1 := below_then (Below.refl _ _) b1
    go_wp2
    go_ret
    exact ⟨rfl, below_then b0 e140⟩

set_option maxRecDepth 100000 in
theorem lifted (os : Os) (started : os.Started) (H : Type) (enc : TypeId × Value → H) :
    ReturnsInHanded {} Try.checked os 6 .any (Rows.fnExactUnwrapSpec.pre6 enc Try.prog Try.f6 Rows.fnExactUnwrapRow.domain false) (Rows.fnExactUnwrapSpec.post enc Try.prog Try.f6 false true false false) := by
  refine returnsInHanded_of_change (C := Try.checked) own started (by kernel_rfl) Try.func6
    (ChangeSpec.witness6 (enc := enc) (C := Try.checked) false ⟨#[], #[.agg #[.string ByteArray.empty, .bool false, .bool false, .slice none 0 0, .int .i64 0, .slice none 0 0]], []⟩ 8 (by kernel_rfl) (by kernel_rfl) (by kernel_rfl) (by kernel_rfl)) ?_
  intro W base args ds gs before hval0 hW _ _
  have hval : ∀ (j : Nat) t v, Try.f6.params[j]? = some t → args[j]? = some v → Value.okWide Try.prog W .any base t v := hval0
  have hW' := hW
  obtain ⟨p, q, hA0, hV, rfl, hfz, hnd⟩ := hW
  have hA : DataW.TrodAll enc Try.prog W 0 (fun _ => true) true Try.f6.params.toList args.toList ds p := hA0
  rw [Try.params6] at hA hval
  obtain ⟨v0, vs0, d0, ds0, p0, q0, hargs, rfl, rfl, h0, r0⟩ := trodAll_cons hA
  obtain ⟨rfl, rfl, rfl⟩ := trodAll_nil r0
  obtain rfl : args = #[v0] := by cases args; simp_all
  obtain ⟨rfl, rfl⟩ := trodVars_none hV
  obtain ⟨a0, hv0⟩ := open_part (hval 0 58 v0 rfl rfl) h0
  refine (walk W v0 a0 hv0).mono fun e W' ⟨he, hg⟩ => ?_
  subst he
  exact ⟨_, rfl, law_post (tb := 4) (by kernel_rfl) (by kernel_rfl) hW' hg rfl Try.underlying4 rfl rfl rfl rfl⟩

theorem over : Rows.fnExactUnwrapRow.holds Try.pinned (OpenSpec.ofChange Rows.fnExactUnwrapSpec) :=
  OpenClaim.holds_of_wide 6 Try.f6 rfl rfl rfl rfl rfl rfl rfl ⟨rfl, rfl, rfl, rfl, rfl⟩ rfl rfl rfl rfl rfl (by kernel_rfl) Try.func6 (by kernel_rfl)
    (of_decide_eq_true (by kernel_rfl)) (by unfold Func.isWrapper; first | (rw [if_pos (by decide +kernel)]; kernel_rfl) | (rw [if_neg (by decide +kernel)]; exact ⟨rfl, rfl⟩))
    (fun os started H enc _ => lifted os started H enc)

/-- The statement. -/
theorem proved : Rows.FnExactUnwrapSaid :=
  over
#print axioms proved
end Go.Proofs.Ytplcdnahiimenaa.fnExactUnwrap
