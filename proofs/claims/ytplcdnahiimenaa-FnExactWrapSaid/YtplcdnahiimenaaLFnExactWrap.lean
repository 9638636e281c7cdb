/- FnExactWrap: for every input the law returns true, and its arguments read afterwards as they read before. No condition besides those of the statement itself. -/
import Derived.Test.YtplcdnahiimenaaLaw
import Derived.Test.YtplcdnahiimenaaWrap2
import Derived.Test.YtplcdnahiimenaaMarkPart
import Derived.Test.YtplcdnahiimenaaOpenPart
import Derived.ShutString
namespace Go.Proofs.Ytplcdnahiimenaa.fnExactWrap
open Go.ChangeShapes Go.WideShapes Go.ChangeAt Go.RowKit
set_option maxRecDepth 100000
open Go.ChangeMaps (open_string shut_string)
set_option linter.unusedVariables false

theorem own : ownKnob Try.prog.godebug = none := by kernel_rfl

set_option maxHeartbeats 4000000 in
/-- The walk: the Go text returns true. -/
theorem walk (w : World) (v0 : Value) (a0 : Pu.PartD) (hv0 : RdPart w v0 a0) (a1 : ByteArray) (w1 : a1.size ≤ maxLen) :
    Calls Try.prog 8 #[v0, .string a1] w fun e w' => e = .returned (.bool true) ∧ Below w.heap.size w w' := by
  obtain ⟨wf0, s0, t0, rfl, ⟨r0, z0⟩, rl0, zl0⟩ := hv0
  have Z0 := hide z0
  have ZL0 := hide zl0
  have WF0 := hide wf0
  clear z0 zl0 wf0
  unfold maxLen at w1
  by_cases hstr : a1.size ≤ 1048576
  · skip
    by_cases hs : (Pu.totPart a0 : Int) ≤ 1048576
    · have hsz : Hid (Pu.szPart a0 1048576 = 1048576 - (Pu.totPart a0 : Int)) := by rw [Hid, Pu.szPart, if_pos hs]
      have hln0 : a0.core.cells.length ≤ 1048576 := by unfold Pu.totPart Pu.totCore at hs; omega
      have hll0 : a0.layers.length ≤ 1048576 := by unfold Pu.totPart Pu.totCore at hs; omega
      obtain ⟨hq1, hq2⟩ : (Pu.wrapP a0 a1).core.cells.length ≤ 2097152 ∧ (Pu.wrapP a0 a1).layers.length ≤ 2097152 := Pu.wrapP_len a1 hln0 hll0
      unfold partV
      go_enter Try.func8, Try.ntmps8
      obtain ⟨w0, hw0⟩ : ∃ w0, Hid (w.alloc (.cells #[.string a0.core.kind, .bool a0.core.on, .bool a0.core.broken, s0, .int .i64 a0.core.count, t0] 58 : Obj) = w0) := ⟨_, rfl⟩
      have b0 : Below w.heap.size w w0 := by rw [← hw0.out]; exact below_alloc (Below.refl _ _) _
      have YP := hide (show w0.heap[w.heap.size]? = some (.cells #[.string a0.core.kind, .bool a0.core.on, .bool a0.core.broken, s0, .int .i64 a0.core.count, t0] 58 : Obj) by rw [← hw0.out]; exact heap_new rfl)
      go_wp2_with fail
      rw [hw0.out]
      have q0 := RdL.below r0 b0 (Nat.le_refl _)
      have q1 := RdL.below rl0 b0 (Nat.le_refl _)
      refine (szPart_c a0 s0 t0 1048576 _ WF0.out (RdCells.below ⟨q0, Z0.out⟩ (Below.refl _ _)) (RdLayers.below ⟨q1, ZL0.out⟩ (Below.refl _ _)) (by omega) (by omega)).mono ?_; rintro e W1 ⟨rfl, b1⟩
      rw [hsz.out]
      have Y1 := hide (show W1.heap[w.heap.size]? = some (.cells #[.string a0.core.kind, .bool a0.core.on, .bool a0.core.broken, s0, .int .i64 a0.core.count, t0] 58 : Obj) from (b1.block (w.heap.size) (Nat.lt_of_lt_of_le ((Array.getElem?_eq_some_iff.1 YP.out).1) (by simp <;> omega))).trans YP.out)
      have e2 : Below w0.heap.size w0 W1 := below_then (Below.refl _ _) b1
      have z3 : w.heap.size < W1.heap.size := (Array.getElem?_eq_some_iff.1 Y1.out).1
      obtain ⟨_, _, _, _, _, _, _⟩ := six_cells Y1.out
      go_wp2_with fail
      refine (toPart_c a0 s0 t0 _ (RdL.below q0 e2 (Nat.le_refl _)) hln0 (RdL.below q1 e2 (Nat.le_refl _)) hll0).mono ?_; rintro e WT ⟨vT, uT, rfl, oT, pT, nT, bT⟩
      have Y4 := hide (show WT.heap[w.heap.size]? = some (.cells #[.string a0.core.kind, .bool a0.core.on, .bool a0.core.broken, s0, .int .i64 a0.core.count, t0] 58 : Obj) from (bT.block (w.heap.size) (Nat.lt_of_lt_of_le ((Array.getElem?_eq_some_iff.1 Y1.out).1) (by simp <;> omega))).trans Y1.out)
      have e5 : Below w0.heap.size w0 WT := below_then e2 bT
      have rT : RdL WT 2 cellEn vT a0.core.cells := oT.rd (fun _ => rfl)
      have rlT : RdL WT 2 layerEn uT a0.layers := pT.rd (fun _ => rfl)
      go_wp2_with fail
      refine (sWrap_c a0 a1 _ _ _ WF0.out ⟨(RdL.below rT (Below.refl _ _) (Nat.le_refl _)), Z0.out⟩ (RdL.below rlT (Below.refl _ _) (Nat.le_refl _)) (by omega) (by omega)).mono ?_; rintro e WS ⟨⟨vS, uS, rfl, oS, pS, nS⟩, bS⟩
      obtain ⟨AS, kS, rfl⟩ := oS.shape
      obtain ⟨BS, lS, rfl⟩ := pS.shape
      unfold partV replyV
      have Y6 := hide (show WS.heap[w.heap.size]? = some (.cells #[.string a0.core.kind, .bool a0.core.on, .bool a0.core.broken, s0, .int .i64 a0.core.count, t0] 58 : Obj) from (bS.block (w.heap.size) (Nat.lt_of_lt_of_le ((Array.getElem?_eq_some_iff.1 Y4.out).1) (by simp <;> omega))).trans Y4.out)
      have e7 : Below w0.heap.size w0 WS := below_then e5 bS
      have e8 : Below WT.heap.size WT WS := below_then (Below.refl _ _) bS
      have rS : RdL WS 2 cellEn (.slice AS (Pu.wrapP a0 a1).core.cells.length kS) (Pu.wrapP a0 a1).core.cells := oS.rd (fun _ => rfl)
      have rlS : RdL WS 2 layerEn (.slice BS (Pu.wrapP a0 a1).layers.length lS) (Pu.wrapP a0 a1).layers := pS.rd (fun _ => rfl)
      have z9 : w.heap.size < WS.heap.size := (Array.getElem?_eq_some_iff.1 Y6.out).1
      obtain ⟨_, _, _, _, _, _, _⟩ := six_cells Y6.out
      go_wp2_with fail
      refine (toPart_c a0 s0 t0 _ (RdL.below q0 (below_alloc (below_alloc e7 _) _) (Nat.le_refl _)) hln0 (RdL.below q1 (below_alloc (below_alloc e7 _) _) (Nat.le_refl _)) hll0).mono ?_; rintro e WX ⟨vX, uX, rfl, oX, pX, nX, bX⟩
      have Y10 := hide (show WX.heap[w.heap.size]? = some (.cells #[.string a0.core.kind, .bool a0.core.on, .bool a0.core.broken, s0, .int .i64 a0.core.count, t0] 58 : Obj) from (bX.block (w.heap.size) (Nat.lt_of_lt_of_le ((Array.getElem?_eq_some_iff.1 Y6.out).1) (by simp <;> omega))).trans (heap_old (Nat.lt_of_lt_of_le ((Array.getElem?_eq_some_iff.1 Y6.out).1) (by simp)) (heap_old ((Array.getElem?_eq_some_iff.1 Y6.out).1) Y6.out)))
      have Y11 := hide (show WX.heap[WS.heap.size]? = some (.cells #[.string (Pu.wrapP a0 a1).core.kind, .bool (Pu.wrapP a0 a1).core.on, .bool (Pu.wrapP a0 a1).core.broken, .slice AS (Pu.wrapP a0 a1).core.cells.length kS, .int .i64 (Pu.wrapP a0 a1).core.count, .slice BS (Pu.wrapP a0 a1).layers.length lS] 37 : Obj) from (bX.block (WS.heap.size) (by simp <;> omega)).trans (heap_old (by simp <;> omega) (heap_new (by simp))))
      have Y12 := hide (show WX.heap[WS.heap.size + 1]? = some (.cells #[.int .i64 (Pu.wrapR a0 a1).code, .int .i64 (Pu.wrapR a0 a1).value, .string (Pu.wrapR a0 a1).text, .int .i64 (Pu.wrapR a0 a1).want, .int .i64 (Pu.wrapR a0 a1).had] 39 : Obj) from (bX.block (WS.heap.size + 1) (by simp <;> omega)).trans (heap_new (by simp)))
      have e13 : Below w0.heap.size w0 WX := below_then (below_alloc (below_alloc e7 _) _) bX
      have e14 : Below WT.heap.size WT WX := below_then (below_alloc (below_alloc e8 _) _) bX
      have e15 : Below WS.heap.size WS WX := below_then (below_alloc (below_alloc (Below.refl _ _) _) _) bX
      have rX : RdL WX 2 cellEn vX a0.core.cells := oX.rd (fun _ => rfl)
      have rlX : RdL WX 2 layerEn uX a0.layers := pX.rd (fun _ => rfl)
      obtain ⟨AX, kX, rfl⟩ := oX.shape
      obtain ⟨BX, lX, rfl⟩ := pX.shape
      unfold partV
      have z16 : w.heap.size < WX.heap.size := (Array.getElem?_eq_some_iff.1 Y10.out).1
      obtain ⟨_, _, _, _, _, _, _⟩ := six_cells Y10.out
      have z17 : WS.heap.size < WX.heap.size := (Array.getElem?_eq_some_iff.1 Y11.out).1
      obtain ⟨_, _, _, _, _, _, _⟩ := six_cells Y11.out
      have z18 : WS.heap.size + 1 < WX.heap.size := (Array.getElem?_eq_some_iff.1 Y12.out).1
      obtain ⟨_, _, _, _, _, _⟩ := five_cells Y12.out
      go_wp2_with fail
      refine (iWrap_c a0 a1 _ _ _ WF0.out ⟨(RdL.below rX (below_alloc (Below.refl _ _) _) (Nat.le_refl _)), Z0.out⟩ (RdL.below rlX (below_alloc (Below.refl _ _) _) (Nat.le_refl _)) (by omega) (by omega)).mono ?_; rintro e WG ⟨⟨vG, uG, rfl, oG, pG, nG⟩, bG⟩
      obtain ⟨AG, kG, rfl⟩ := oG.shape
      obtain ⟨BG, lG, rfl⟩ := pG.shape
      unfold partV replyV
      have Y19 := hide (show WG.heap[w.heap.size]? = some (.cells #[.string a0.core.kind, .bool a0.core.on, .bool a0.core.broken, s0, .int .i64 a0.core.count, t0] 58 : Obj) from (bG.block (w.heap.size) (Nat.lt_of_lt_of_le ((Array.getElem?_eq_some_iff.1 Y10.out).1) (by simp <;> omega))).trans (heap_old ((Array.getElem?_eq_some_iff.1 Y10.out).1) Y10.out))
      have Y20 := hide (show WG.heap[WS.heap.size]? = some (.cells #[.string (Pu.wrapP a0 a1).core.kind, .bool (Pu.wrapP a0 a1).core.on, .bool (Pu.wrapP a0 a1).core.broken, .slice AS (Pu.wrapP a0 a1).core.cells.length kS, .int .i64 (Pu.wrapP a0 a1).core.count, .slice BS (Pu.wrapP a0 a1).layers.length lS] 37 : Obj) from (bG.block (WS.heap.size) (Nat.lt_of_lt_of_le ((Array.getElem?_eq_some_iff.1 Y11.out).1) (by simp <;> omega))).trans (heap_old ((Array.getElem?_eq_some_iff.1 Y11.out).1) Y11.out))
      have Y21 := hide (show WG.heap[WS.heap.size + 1]? = some (.cells #[.int .i64 (Pu.wrapR a0 a1).code, .int .i64 (Pu.wrapR a0 a1).value, .string (Pu.wrapR a0 a1).text, .int .i64 (Pu.wrapR a0 a1).want, .int .i64 (Pu.wrapR a0 a1).had] 39 : Obj) from (bG.block (WS.heap.size + 1) (Nat.lt_of_lt_of_le ((Array.getElem?_eq_some_iff.1 Y12.out).1) (by simp <;> omega))).trans (heap_old ((Array.getElem?_eq_some_iff.1 Y12.out).1) Y12.out))
      have Y22 := hide (show WG.heap[WX.heap.size]? = some (.cells #[.string a0.core.kind, .bool a0.core.on, .bool a0.core.broken, .slice AX a0.core.cells.length kX, .int .i64 a0.core.count, .slice BX a0.layers.length lX] 37 : Obj) from (bG.block (WX.heap.size) (by simp <;> omega)).trans (heap_new (by simp)))
      have e23 : Below w0.heap.size w0 WG := below_then (below_alloc e13 _) bG
      have e24 : Below WT.heap.size WT WG := below_then (below_alloc e14 _) bG
      have e25 : Below WS.heap.size WS WG := below_then (below_alloc e15 _) bG
      have e26 : Below WX.heap.size WX WG := below_then (below_alloc (Below.refl _ _) _) bG
      have rG : RdL WG 2 cellEn (.slice AG (Pu.wrapP a0 a1).core.cells.length kG) (Pu.wrapP a0 a1).core.cells := oG.rd (fun _ => rfl)
      have rlG : RdL WG 2 layerEn (.slice BG (Pu.wrapP a0 a1).layers.length lG) (Pu.wrapP a0 a1).layers := pG.rd (fun _ => rfl)
      have z27 : w.heap.size < WG.heap.size := (Array.getElem?_eq_some_iff.1 Y19.out).1
      obtain ⟨_, _, _, _, _, _, _⟩ := six_cells Y19.out
      have z28 : WS.heap.size < WG.heap.size := (Array.getElem?_eq_some_iff.1 Y20.out).1
      obtain ⟨_, _, _, _, _, _, _⟩ := six_cells Y20.out
      have z29 : WS.heap.size + 1 < WG.heap.size := (Array.getElem?_eq_some_iff.1 Y21.out).1
      obtain ⟨_, _, _, _, _, _⟩ := five_cells Y21.out
      have z30 : WX.heap.size < WG.heap.size := (Array.getElem?_eq_some_iff.1 Y22.out).1
      obtain ⟨_, _, _, _, _, _, _⟩ := six_cells Y22.out
      go_wp2_with fail
      refine (eqPart_c (Pu.wrapP a0 a1) (Pu.wrapP a0 a1) _ _ _ _ _ rfl (RdL.below rG (below_alloc (below_alloc (Below.refl _ _) _) _) (Nat.le_refl _)) (RdL.below rlG (below_alloc (below_alloc (Below.refl _ _) _) _) (Nat.le_refl _)) (RdL.below rS (below_alloc (below_alloc e25 _) _) (Nat.le_refl _)) (RdL.below rlS (below_alloc (below_alloc e25 _) _) (Nat.le_refl _))).mono ?_; rintro e WH ⟨rfl, bWH⟩
      have Y31 := hide (show WH.heap[w.heap.size]? = some (.cells #[.string a0.core.kind, .bool a0.core.on, .bool a0.core.broken, s0, .int .i64 a0.core.count, t0] 58 : Obj) from (bWH.block (w.heap.size) (Nat.lt_of_lt_of_le ((Array.getElem?_eq_some_iff.1 Y19.out).1) (by simp <;> omega))).trans (heap_old (Nat.lt_of_lt_of_le ((Array.getElem?_eq_some_iff.1 Y19.out).1) (by simp)) (heap_old ((Array.getElem?_eq_some_iff.1 Y19.out).1) Y19.out)))
      have Y32 := hide (show WH.heap[WS.heap.size]? = some (.cells #[.string (Pu.wrapP a0 a1).core.kind, .bool (Pu.wrapP a0 a1).core.on, .bool (Pu.wrapP a0 a1).core.broken, .slice AS (Pu.wrapP a0 a1).core.cells.length kS, .int .i64 (Pu.wrapP a0 a1).core.count, .slice BS (Pu.wrapP a0 a1).layers.length lS] 37 : Obj) from (bWH.block (WS.heap.size) (Nat.lt_of_lt_of_le ((Array.getElem?_eq_some_iff.1 Y20.out).1) (by simp <;> omega))).trans (heap_old (Nat.lt_of_lt_of_le ((Array.getElem?_eq_some_iff.1 Y20.out).1) (by simp)) (heap_old ((Array.getElem?_eq_some_iff.1 Y20.out).1) Y20.out)))
      have Y33 := hide (show WH.heap[WS.heap.size + 1]? = some (.cells #[.int .i64 (Pu.wrapR a0 a1).code, .int .i64 (Pu.wrapR a0 a1).value, .string (Pu.wrapR a0 a1).text, .int .i64 (Pu.wrapR a0 a1).want, .int .i64 (Pu.wrapR a0 a1).had] 39 : Obj) from (bWH.block (WS.heap.size + 1) (Nat.lt_of_lt_of_le ((Array.getElem?_eq_some_iff.1 Y21.out).1) (by simp <;> omega))).trans (heap_old (Nat.lt_of_lt_of_le ((Array.getElem?_eq_some_iff.1 Y21.out).1) (by simp)) (heap_old ((Array.getElem?_eq_some_iff.1 Y21.out).1) Y21.out)))
      have Y34 := hide (show WH.heap[WX.heap.size]? = some (.cells #[.string a0.core.kind, .bool a0.core.on, .bool a0.core.broken, .slice AX a0.core.cells.length kX, .int .i64 a0.core.count, .slice BX a0.layers.length lX] 37 : Obj) from (bWH.block (WX.heap.size) (Nat.lt_of_lt_of_le ((Array.getElem?_eq_some_iff.1 Y22.out).1) (by simp <;> omega))).trans (heap_old (Nat.lt_of_lt_of_le ((Array.getElem?_eq_some_iff.1 Y22.out).1) (by simp)) (heap_old ((Array.getElem?_eq_some_iff.1 Y22.out).1) Y22.out)))
      have Y35 := hide (show WH.heap[WG.heap.size]? = some (.cells #[.string (Pu.wrapP a0 a1).core.kind, .bool (Pu.wrapP a0 a1).core.on, .bool (Pu.wrapP a0 a1).core.broken, .slice AG (Pu.wrapP a0 a1).core.cells.length kG, .int .i64 (Pu.wrapP a0 a1).core.count, .slice BG (Pu.wrapP a0 a1).layers.length lG] 37 : Obj) from (bWH.block (WG.heap.size) (by simp <;> omega)).trans (heap_old (by simp <;> omega) (heap_new (by simp))))
      have Y36 := hide (show WH.heap[WG.heap.size + 1]? = some (.cells #[.int .i64 (Pu.wrapR a0 a1).code, .int .i64 (Pu.wrapR a0 a1).value, .string (Pu.wrapR a0 a1).text, .int .i64 (Pu.wrapR a0 a1).want, .int .i64 (Pu.wrapR a0 a1).had] 39 : Obj) from (bWH.block (WG.heap.size + 1) (by simp <;> omega)).trans (heap_new (by simp)))
      have e37 : Below w0.heap.size w0 WH := below_then (below_alloc (below_alloc e23 _) _) bWH
      have e38 : Below WT.heap.size WT WH := below_then (below_alloc (below_alloc e24 _) _) bWH
      have e39 : Below WS.heap.size WS WH := below_then (below_alloc (below_alloc e25 _) _) bWH
      have e40 : Below WX.heap.size WX WH := below_then (below_alloc (below_alloc e26 _) _) bWH
      have e41 : Below WG.heap.size WG WH := below_then (below_alloc (below_alloc (Below.refl _ _) _) _) bWH
      have z42 : w.heap.size < WH.heap.size := (Array.getElem?_eq_some_iff.1 Y31.out).1
      obtain ⟨_, _, _, _, _, _, _⟩ := six_cells Y31.out
      have z43 : WS.heap.size < WH.heap.size := (Array.getElem?_eq_some_iff.1 Y32.out).1
      obtain ⟨_, _, _, _, _, _, _⟩ := six_cells Y32.out
      have z44 : WS.heap.size + 1 < WH.heap.size := (Array.getElem?_eq_some_iff.1 Y33.out).1
      obtain ⟨_, _, _, _, _, _⟩ := five_cells Y33.out
      have z45 : WX.heap.size < WH.heap.size := (Array.getElem?_eq_some_iff.1 Y34.out).1
      obtain ⟨_, _, _, _, _, _, _⟩ := six_cells Y34.out
      have z46 : WG.heap.size < WH.heap.size := (Array.getElem?_eq_some_iff.1 Y35.out).1
      obtain ⟨_, _, _, _, _, _, _⟩ := six_cells Y35.out
      have z47 : WG.heap.size + 1 < WH.heap.size := (Array.getElem?_eq_some_iff.1 Y36.out).1
      obtain ⟨_, _, _, _, _, _⟩ := five_cells Y36.out
      go_wp2_with fail
      refine (eqReply_c (Pu.wrapR a0 a1) _).mono ?_; rintro e WHr ⟨rfl, bWHr⟩
      have Y48 := hide (show WHr.heap[w.heap.size]? = some (.cells #[.string a0.core.kind, .bool a0.core.on, .bool a0.core.broken, s0, .int .i64 a0.core.count, t0] 58 : Obj) from (bWHr.block (w.heap.size) (Nat.lt_of_lt_of_le ((Array.getElem?_eq_some_iff.1 Y31.out).1) (by simp <;> omega))).trans Y31.out)
      have Y49 := hide (show WHr.heap[WS.heap.size]? = some (.cells #[.string (Pu.wrapP a0 a1).core.kind, .bool (Pu.wrapP a0 a1).core.on, .bool (Pu.wrapP a0 a1).core.broken, .slice AS (Pu.wrapP a0 a1).core.cells.length kS, .int .i64 (Pu.wrapP a0 a1).core.count, .slice BS (Pu.wrapP a0 a1).layers.length lS] 37 : Obj) from (bWHr.block (WS.heap.size) (Nat.lt_of_lt_of_le ((Array.getElem?_eq_some_iff.1 Y32.out).1) (by simp <;> omega))).trans Y32.out)
      have Y50 := hide (show WHr.heap[WS.heap.size + 1]? = some (.cells #[.int .i64 (Pu.wrapR a0 a1).code, .int .i64 (Pu.wrapR a0 a1).value, .string (Pu.wrapR a0 a1).text, .int .i64 (Pu.wrapR a0 a1).want, .int .i64 (Pu.wrapR a0 a1).had] 39 : Obj) from (bWHr.block (WS.heap.size + 1) (Nat.lt_of_lt_of_le ((Array.getElem?_eq_some_iff.1 Y33.out).1) (by simp <;> omega))).trans Y33.out)
      have Y51 := hide (show WHr.heap[WX.heap.size]? = some (.cells #[.string a0.core.kind, .bool a0.core.on, .bool a0.core.broken, .slice AX a0.core.cells.length kX, .int .i64 a0.core.count, .slice BX a0.layers.length lX] 37 : Obj) from (bWHr.block (WX.heap.size) (Nat.lt_of_lt_of_le ((Array.getElem?_eq_some_iff.1 Y34.out).1) (by simp <;> omega))).trans Y34.out)
      have Y52 := hide (show WHr.heap[WG.heap.size]? = some (.cells #[.string (Pu.wrapP a0 a1).core.kind, .bool (Pu.wrapP a0 a1).core.on, .bool (Pu.wrapP a0 a1).core.broken, .slice AG (Pu.wrapP a0 a1).core.cells.length kG, .int .i64 (Pu.wrapP a0 a1).core.count, .slice BG (Pu.wrapP a0 a1).layers.length lG] 37 : Obj) from (bWHr.block (WG.heap.size) (Nat.lt_of_lt_of_le ((Array.getElem?_eq_some_iff.1 Y35.out).1) (by simp <;> omega))).trans Y35.out)
      have Y53 := hide (show WHr.heap[WG.heap.size + 1]? = some (.cells #[.int .i64 (Pu.wrapR a0 a1).code, .int .i64 (Pu.wrapR a0 a1).value, .string (Pu.wrapR a0 a1).text, .int .i64 (Pu.wrapR a0 a1).want, .int .i64 (Pu.wrapR a0 a1).had] 39 : Obj) from (bWHr.block (WG.heap.size + 1) (Nat.lt_of_lt_of_le ((Array.getElem?_eq_some_iff.1 Y36.out).1) (by simp <;> omega))).trans Y36.out)
      have e54 : Below w0.heap.size w0 WHr := below_then e37 bWHr
      have e55 : Below WT.heap.size WT WHr := below_then e38 bWHr
      have e56 : Below WS.heap.size WS WHr := below_then e39 bWHr
      have e57 : Below WX.heap.size WX WHr := below_then e40 bWHr
      have e58 : Below WG.heap.size WG WHr := below_then e41 bWHr
      have z59 : w.heap.size < WHr.heap.size := (Array.getElem?_eq_some_iff.1 Y48.out).1
      obtain ⟨_, _, _, _, _, _, _⟩ := six_cells Y48.out
      have z60 : WS.heap.size < WHr.heap.size := (Array.getElem?_eq_some_iff.1 Y49.out).1
      obtain ⟨_, _, _, _, _, _, _⟩ := six_cells Y49.out
      have z61 : WS.heap.size + 1 < WHr.heap.size := (Array.getElem?_eq_some_iff.1 Y50.out).1
      obtain ⟨_, _, _, _, _, _⟩ := five_cells Y50.out
      have z62 : WX.heap.size < WHr.heap.size := (Array.getElem?_eq_some_iff.1 Y51.out).1
      obtain ⟨_, _, _, _, _, _, _⟩ := six_cells Y51.out
      have z63 : WG.heap.size < WHr.heap.size := (Array.getElem?_eq_some_iff.1 Y52.out).1
      obtain ⟨_, _, _, _, _, _, _⟩ := six_cells Y52.out
      have z64 : WG.heap.size + 1 < WHr.heap.size := (Array.getElem?_eq_some_iff.1 Y53.out).1
      obtain ⟨_, _, _, _, _, _⟩ := five_cells Y53.out
      go_wp2_with fail
      have K0 : Below WHr.heap.size WHr WHr := Below.refl _ _
      have KD : ∀ w' : World, Below WHr.heap.size WHr w' → Below WHr.heap.size WHr w'.drew := fun _ h => h.drew
      go_region_held3 (fun w' => Below WHr.heap.size WHr w' ∧ w'.cell? ⟨WX.heap.size, 0, none⟩ = some (.string a0.core.kind) ∧ w'.cell? ⟨WX.heap.size, 1, none⟩ = some (.bool a0.core.on) ∧ w'.cell? ⟨WX.heap.size, 2, none⟩ = some (.bool a0.core.broken) ∧ w'.cell? ⟨WX.heap.size, 3, none⟩ = some (.slice AX a0.core.cells.length kX) ∧ w'.cell? ⟨WX.heap.size, 4, none⟩ = some (.int .i64 a0.core.count) ∧ w'.cell? ⟨WX.heap.size, 5, none⟩ = some (.slice BX a0.layers.length lX) ∧ w'.cell? ⟨w.heap.size, 0, none⟩ = some (.string a0.core.kind) ∧ w'.cell? ⟨w.heap.size, 1, none⟩ = some (.bool a0.core.on) ∧ w'.cell? ⟨w.heap.size, 2, none⟩ = some (.bool a0.core.broken) ∧ w'.cell? ⟨w.heap.size, 3, none⟩ = some (s0) ∧ w'.cell? ⟨w.heap.size, 4, none⟩ = some (.int .i64 a0.core.count) ∧ w'.cell? ⟨w.heap.size, 5, none⟩ = some (t0)) (go_keep)
        (first
             | (go_at_call 30;
                 refine (toPart_c a0 _ _ _ (RdL.below (RdL.below q0 e54 (Nat.le_refl _)) (And.left (by assumption)) (Nat.le_refl _)) hln0 (RdL.below (RdL.below q1 e54 (Nat.le_refl _)) (And.left (by assumption)) (Nat.le_refl _)) hll0).mono ?_;
                 rintro e WZ ⟨vZ, uZ, rfl, oZ, pZ, nZ, bZ⟩;
                 have RZ : RdL WZ 2 cellEn vZ a0.core.cells := oZ.rd (fun _ => rfl);
                 have QZ : RdL WZ 2 layerEn uZ a0.layers := pZ.rd (fun _ => rfl);
                 have KWWZ : Below WHr.heap.size WHr WZ := below_then (And.left (by assumption)) bZ;
                 have KWZ0 : ∀ k : Nat, WZ.cell? ⟨WX.heap.size, k, none⟩ = _ := fun k => bZ.cell (Nat.lt_of_lt_of_le z62 (Below.size (And.left (by assumption))));
                 have KWZ1 : ∀ k : Nat, WZ.cell? ⟨w.heap.size, k, none⟩ = _ := fun k => bZ.cell (Nat.lt_of_lt_of_le z59 (Below.size (And.left (by assumption)))))
             | (go_at_call 31;
                 refine (eqPart_c a0 a0 _ _ _ _ _ rfl (RdL.below rX (below_then e57 (And.left (by assumption))) (Nat.le_refl _)) (RdL.below rlX (below_then e57 (And.left (by assumption))) (Nat.le_refl _)) (by first | exact RdL.below RZ (by first | exact Below.refl _ _ | exact (Below.refl _ _).drew | exact (Below.refl _ _).drew.drew | exact (Below.refl _ _).drew.drew.drew) (Nat.le_refl _)) (by first | exact RdL.below QZ (by first | exact Below.refl _ _ | exact (Below.refl _ _).drew | exact (Below.refl _ _).drew.drew | exact (Below.refl _ _).drew.drew.drew) (Nat.le_refl _))).mono ?_;
                 rintro e WE ⟨rfl, bWE⟩;
                 have KWWE : Below WHr.heap.size WHr WE := below_then (And.left (by assumption)) bWE;
                 have KWE0 : ∀ k : Nat, WE.cell? ⟨WX.heap.size, k, none⟩ = _ := fun k => bWE.cell (Nat.lt_of_lt_of_le z62 (Below.size (And.left (by assumption))));
                 have KWE1 : ∀ k : Nat, WE.cell? ⟨w.heap.size, k, none⟩ = _ := fun k => bWE.cell (Nat.lt_of_lt_of_le z59 (Below.size (And.left (by assumption))))))
      clear K0 KD
      have Y65 := hide (show WE.heap[w.heap.size]? = some (.cells #[.string a0.core.kind, .bool a0.core.on, .bool a0.core.broken, s0, .int .i64 a0.core.count, t0] 58 : Obj) from (KWWE.block (w.heap.size) (Nat.lt_of_lt_of_le ((Array.getElem?_eq_some_iff.1 Y48.out).1) (by simp <;> omega))).trans Y48.out)
      have Y66 := hide (show WE.heap[WS.heap.size]? = some (.cells #[.string (Pu.wrapP a0 a1).core.kind, .bool (Pu.wrapP a0 a1).core.on, .bool (Pu.wrapP a0 a1).core.broken, .slice AS (Pu.wrapP a0 a1).core.cells.length kS, .int .i64 (Pu.wrapP a0 a1).core.count, .slice BS (Pu.wrapP a0 a1).layers.length lS] 37 : Obj) from (KWWE.block (WS.heap.size) (Nat.lt_of_lt_of_le ((Array.getElem?_eq_some_iff.1 Y49.out).1) (by simp <;> omega))).trans Y49.out)
      have Y67 := hide (show WE.heap[WS.heap.size + 1]? = some (.cells #[.int .i64 (Pu.wrapR a0 a1).code, .int .i64 (Pu.wrapR a0 a1).value, .string (Pu.wrapR a0 a1).text, .int .i64 (Pu.wrapR a0 a1).want, .int .i64 (Pu.wrapR a0 a1).had] 39 : Obj) from (KWWE.block (WS.heap.size + 1) (Nat.lt_of_lt_of_le ((Array.getElem?_eq_some_iff.1 Y50.out).1) (by simp <;> omega))).trans Y50.out)
      have Y68 := hide (show WE.heap[WX.heap.size]? = some (.cells #[.string a0.core.kind, .bool a0.core.on, .bool a0.core.broken, .slice AX a0.core.cells.length kX, .int .i64 a0.core.count, .slice BX a0.layers.length lX] 37 : Obj) from (KWWE.block (WX.heap.size) (Nat.lt_of_lt_of_le ((Array.getElem?_eq_some_iff.1 Y51.out).1) (by simp <;> omega))).trans Y51.out)
      have Y69 := hide (show WE.heap[WG.heap.size]? = some (.cells #[.string (Pu.wrapP a0 a1).core.kind, .bool (Pu.wrapP a0 a1).core.on, .bool (Pu.wrapP a0 a1).core.broken, .slice AG (Pu.wrapP a0 a1).core.cells.length kG, .int .i64 (Pu.wrapP a0 a1).core.count, .slice BG (Pu.wrapP a0 a1).layers.length lG] 37 : Obj) from (KWWE.block (WG.heap.size) (Nat.lt_of_lt_of_le ((Array.getElem?_eq_some_iff.1 Y52.out).1) (by simp <;> omega))).trans Y52.out)
      have Y70 := hide (show WE.heap[WG.heap.size + 1]? = some (.cells #[.int .i64 (Pu.wrapR a0 a1).code, .int .i64 (Pu.wrapR a0 a1).value, .string (Pu.wrapR a0 a1).text, .int .i64 (Pu.wrapR a0 a1).want, .int .i64 (Pu.wrapR a0 a1).had] 39 : Obj) from (KWWE.block (WG.heap.size + 1) (Nat.lt_of_lt_of_le ((Array.getElem?_eq_some_iff.1 Y53.out).1) (by simp <;> omega))).trans Y53.out)
      have e71 : Below w0.heap.size w0 WE := below_then e54 KWWE
      have e72 : Below WT.heap.size WT WE := below_then e55 KWWE
      have e73 : Below WS.heap.size WS WE := below_then e56 KWWE
      have e74 : Below WX.heap.size WX WE := below_then e57 KWWE
      have e75 : Below WG.heap.size WG WE := below_then e58 KWWE
      have z76 : w.heap.size < WE.heap.size := (Array.getElem?_eq_some_iff.1 Y65.out).1
      obtain ⟨_, _, _, _, _, _, _⟩ := six_cells Y65.out
      have z77 : WS.heap.size < WE.heap.size := (Array.getElem?_eq_some_iff.1 Y66.out).1
      obtain ⟨_, _, _, _, _, _, _⟩ := six_cells Y66.out
      have z78 : WS.heap.size + 1 < WE.heap.size := (Array.getElem?_eq_some_iff.1 Y67.out).1
      obtain ⟨_, _, _, _, _, _⟩ := five_cells Y67.out
      have z79 : WX.heap.size < WE.heap.size := (Array.getElem?_eq_some_iff.1 Y68.out).1
      obtain ⟨_, _, _, _, _, _, _⟩ := six_cells Y68.out
      have z80 : WG.heap.size < WE.heap.size := (Array.getElem?_eq_some_iff.1 Y69.out).1
      obtain ⟨_, _, _, _, _, _, _⟩ := six_cells Y69.out
      have z81 : WG.heap.size + 1 < WE.heap.size := (Array.getElem?_eq_some_iff.1 Y70.out).1
      obtain ⟨_, _, _, _, _, _⟩ := five_cells Y70.out
      have gE := OwnL.below oG e75 (Nat.le_refl _)
      have hE := OwnL.below pG e75 (Nat.le_refl _)
      have xE := OwnL.below oX e74 (Nat.le_refl _)
      go_wp2_with fail
      have yE := OwnL.below pX e74 (Nat.le_refl _)
      have hCE : ∀ g, (Value.slice AX a0.core.cells.length kX).ownBlock = some g ∨ (Value.slice BX a0.layers.length lX).ownBlock = some g → g < WX.heap.size := fun g h => by rcases h with h | h; exact (oX.lt h).2; exact (pX.lt h).2
      refine (markPart_c a0 _ _ _ _ 1 _ WX.heap.size _ xE yE nX hCE (Below.size e74) (by omega) (by omega) (by omega) (by omega)).mono ?_; rintro e WM ⟨rfl, oM, pM, wM⟩
      have gXs : WS.heap.size ≤ WX.heap.size := by have := bX.size; simp at this; omega
      have gWs : WX.heap.size ≤ WG.heap.size := by have := bG.size; simp at this; omega
      have wM1 : Within (WS.heap.size + 2) WX.heap.size WE WM := wM.mono (by simp) (Nat.le_refl _)
      have bM : Below WS.heap.size WE WM := wM1.below (by omega) (Below.size e73)
      have gTS : W1.heap.size ≤ WS.heap.size := by have h1 := bT.size; have h2 := bS.size; omega
      have g01 : w0.heap.size ≤ W1.heap.size := b1.size
      have gP : w.heap.size < WS.heap.size := by have := (Array.getElem?_eq_some_iff.1 YP.out).1; omega
      have Y82 := hide (show WM.heap[w.heap.size]? = some (.cells #[.string a0.core.kind, .bool a0.core.on, .bool a0.core.broken, s0, .int .i64 a0.core.count, t0] 58 : Obj) from (wM1.block (w.heap.size) (Array.getElem?_eq_some_iff.1 Y65.out).1 (by first | exact .inl (by omega) | exact .inr (by omega))).trans Y65.out)
      have Y83 := hide (show WM.heap[WS.heap.size]? = some (.cells #[.string (Pu.wrapP a0 a1).core.kind, .bool (Pu.wrapP a0 a1).core.on, .bool (Pu.wrapP a0 a1).core.broken, .slice AS (Pu.wrapP a0 a1).core.cells.length kS, .int .i64 (Pu.wrapP a0 a1).core.count, .slice BS (Pu.wrapP a0 a1).layers.length lS] 37 : Obj) from (wM1.block (WS.heap.size) (Array.getElem?_eq_some_iff.1 Y66.out).1 (by first | exact .inl (by omega) | exact .inr (by omega))).trans Y66.out)
      have Y84 := hide (show WM.heap[WS.heap.size + 1]? = some (.cells #[.int .i64 (Pu.wrapR a0 a1).code, .int .i64 (Pu.wrapR a0 a1).value, .string (Pu.wrapR a0 a1).text, .int .i64 (Pu.wrapR a0 a1).want, .int .i64 (Pu.wrapR a0 a1).had] 39 : Obj) from (wM1.block (WS.heap.size + 1) (Array.getElem?_eq_some_iff.1 Y67.out).1 (by first | exact .inl (by omega) | exact .inr (by omega))).trans Y67.out)
      have Y85 := hide (show WM.heap[WX.heap.size]? = some (.cells #[.string a0.core.kind, .bool a0.core.on, .bool a0.core.broken, .slice AX a0.core.cells.length kX, .int .i64 a0.core.count, .slice BX a0.layers.length lX] 37 : Obj) from (wM1.block (WX.heap.size) (Array.getElem?_eq_some_iff.1 Y68.out).1 (by first | exact .inl (by omega) | exact .inr (by omega))).trans Y68.out)
      have Y86 := hide (show WM.heap[WG.heap.size]? = some (.cells #[.string (Pu.wrapP a0 a1).core.kind, .bool (Pu.wrapP a0 a1).core.on, .bool (Pu.wrapP a0 a1).core.broken, .slice AG (Pu.wrapP a0 a1).core.cells.length kG, .int .i64 (Pu.wrapP a0 a1).core.count, .slice BG (Pu.wrapP a0 a1).layers.length lG] 37 : Obj) from (wM1.block (WG.heap.size) (Array.getElem?_eq_some_iff.1 Y69.out).1 (by first | exact .inl (by omega) | exact .inr (by omega))).trans Y69.out)
      have Y87 := hide (show WM.heap[WG.heap.size + 1]? = some (.cells #[.int .i64 (Pu.wrapR a0 a1).code, .int .i64 (Pu.wrapR a0 a1).value, .string (Pu.wrapR a0 a1).text, .int .i64 (Pu.wrapR a0 a1).want, .int .i64 (Pu.wrapR a0 a1).had] 39 : Obj) from (wM1.block (WG.heap.size + 1) (Array.getElem?_eq_some_iff.1 Y70.out).1 (by first | exact .inl (by omega) | exact .inr (by omega))).trans Y70.out)
      have e88 : Below w0.heap.size w0 WM := Below.trans e71 (bM.mono (by first | exact Nat.le_refl _ | omega))
      have e89 : Below WS.heap.size WS WM := Below.trans e73 (bM.mono (by first | exact Nat.le_refl _ | omega))
      have gM1 := OwnL.within gE wM1 (fun g h => .inr (by have h1 := (oG.lt h).1; try simp at h1; omega))
      have hM1 := OwnL.within hE wM1 (fun g h => .inr (by have h1 := (pG.lt h).1; try simp at h1; omega))
      have rM1 : RdL WM 2 cellEn (.slice AG (Pu.wrapP a0 a1).core.cells.length kG) (Pu.wrapP a0 a1).core.cells := gM1.rd (fun _ => rfl)
      have rlM1 : RdL WM 2 layerEn (.slice BG (Pu.wrapP a0 a1).layers.length lG) (Pu.wrapP a0 a1).layers := hM1.rd (fun _ => rfl)
      have z90 : w.heap.size < WM.heap.size := (Array.getElem?_eq_some_iff.1 Y82.out).1
      obtain ⟨_, _, _, _, _, _, _⟩ := six_cells Y82.out
      have z91 : WS.heap.size < WM.heap.size := (Array.getElem?_eq_some_iff.1 Y83.out).1
      obtain ⟨_, _, _, _, _, _, _⟩ := six_cells Y83.out
      have z92 : WS.heap.size + 1 < WM.heap.size := (Array.getElem?_eq_some_iff.1 Y84.out).1
      obtain ⟨_, _, _, _, _, _⟩ := five_cells Y84.out
      have z93 : WX.heap.size < WM.heap.size := (Array.getElem?_eq_some_iff.1 Y85.out).1
      obtain ⟨_, _, _, _, _, _, _⟩ := six_cells Y85.out
      have z94 : WG.heap.size < WM.heap.size := (Array.getElem?_eq_some_iff.1 Y86.out).1
      obtain ⟨_, _, _, _, _, _, _⟩ := six_cells Y86.out
      have z95 : WG.heap.size + 1 < WM.heap.size := (Array.getElem?_eq_some_iff.1 Y87.out).1
      obtain ⟨_, _, _, _, _, _⟩ := five_cells Y87.out
      go_wp2_with fail
      refine (eqPart_c (Pu.wrapP a0 a1) (Pu.wrapP a0 a1) _ _ _ _ _ rfl rM1 rlM1 (RdL.below rS e89 (Nat.le_refl _)) (RdL.below rlS e89 (Nat.le_refl _))).mono ?_; rintro e WN ⟨rfl, bWN⟩
      have Y96 := hide (show WN.heap[w.heap.size]? = some (.cells #[.string a0.core.kind, .bool a0.core.on, .bool a0.core.broken, s0, .int .i64 a0.core.count, t0] 58 : Obj) from (bWN.block (w.heap.size) (Nat.lt_of_lt_of_le ((Array.getElem?_eq_some_iff.1 Y82.out).1) (by simp <;> omega))).trans Y82.out)
      have Y97 := hide (show WN.heap[WS.heap.size]? = some (.cells #[.string (Pu.wrapP a0 a1).core.kind, .bool (Pu.wrapP a0 a1).core.on, .bool (Pu.wrapP a0 a1).core.broken, .slice AS (Pu.wrapP a0 a1).core.cells.length kS, .int .i64 (Pu.wrapP a0 a1).core.count, .slice BS (Pu.wrapP a0 a1).layers.length lS] 37 : Obj) from (bWN.block (WS.heap.size) (Nat.lt_of_lt_of_le ((Array.getElem?_eq_some_iff.1 Y83.out).1) (by simp <;> omega))).trans Y83.out)
      have Y98 := hide (show WN.heap[WS.heap.size + 1]? = some (.cells #[.int .i64 (Pu.wrapR a0 a1).code, .int .i64 (Pu.wrapR a0 a1).value, .string (Pu.wrapR a0 a1).text, .int .i64 (Pu.wrapR a0 a1).want, .int .i64 (Pu.wrapR a0 a1).had] 39 : Obj) from (bWN.block (WS.heap.size + 1) (Nat.lt_of_lt_of_le ((Array.getElem?_eq_some_iff.1 Y84.out).1) (by simp <;> omega))).trans Y84.out)
      have Y99 := hide (show WN.heap[WX.heap.size]? = some (.cells #[.string a0.core.kind, .bool a0.core.on, .bool a0.core.broken, .slice AX a0.core.cells.length kX, .int .i64 a0.core.count, .slice BX a0.layers.length lX] 37 : Obj) from (bWN.block (WX.heap.size) (Nat.lt_of_lt_of_le ((Array.getElem?_eq_some_iff.1 Y85.out).1) (by simp <;> omega))).trans Y85.out)
      have Y100 := hide (show WN.heap[WG.heap.size]? = some (.cells #[.string (Pu.wrapP a0 a1).core.kind, .bool (Pu.wrapP a0 a1).core.on, .bool (Pu.wrapP a0 a1).core.broken, .slice AG (Pu.wrapP a0 a1).core.cells.length kG, .int .i64 (Pu.wrapP a0 a1).core.count, .slice BG (Pu.wrapP a0 a1).layers.length lG] 37 : Obj) from (bWN.block (WG.heap.size) (Nat.lt_of_lt_of_le ((Array.getElem?_eq_some_iff.1 Y86.out).1) (by simp <;> omega))).trans Y86.out)
      have Y101 := hide (show WN.heap[WG.heap.size + 1]? = some (.cells #[.int .i64 (Pu.wrapR a0 a1).code, .int .i64 (Pu.wrapR a0 a1).value, .string (Pu.wrapR a0 a1).text, .int .i64 (Pu.wrapR a0 a1).want, .int .i64 (Pu.wrapR a0 a1).had] 39 : Obj) from (bWN.block (WG.heap.size + 1) (Nat.lt_of_lt_of_le ((Array.getElem?_eq_some_iff.1 Y87.out).1) (by simp <;> omega))).trans Y87.out)
      have e102 : Below w0.heap.size w0 WN := below_then e88 bWN
      have e103 : Below WS.heap.size WS WN := below_then e89 bWN
      have z104 : w.heap.size < WN.heap.size := (Array.getElem?_eq_some_iff.1 Y96.out).1
      obtain ⟨_, _, _, _, _, _, _⟩ := six_cells Y96.out
      have z105 : WS.heap.size < WN.heap.size := (Array.getElem?_eq_some_iff.1 Y97.out).1
      obtain ⟨_, _, _, _, _, _, _⟩ := six_cells Y97.out
      have z106 : WS.heap.size + 1 < WN.heap.size := (Array.getElem?_eq_some_iff.1 Y98.out).1
      obtain ⟨_, _, _, _, _, _⟩ := five_cells Y98.out
      have z107 : WX.heap.size < WN.heap.size := (Array.getElem?_eq_some_iff.1 Y99.out).1
      obtain ⟨_, _, _, _, _, _, _⟩ := six_cells Y99.out
      have z108 : WG.heap.size < WN.heap.size := (Array.getElem?_eq_some_iff.1 Y100.out).1
      obtain ⟨_, _, _, _, _, _, _⟩ := six_cells Y100.out
      have z109 : WG.heap.size + 1 < WN.heap.size := (Array.getElem?_eq_some_iff.1 Y101.out).1
      obtain ⟨_, _, _, _, _, _⟩ := five_cells Y101.out
      go_wp2_with fail
      refine (eqReply_c (Pu.wrapR a0 a1) _).mono ?_; rintro e WNr ⟨rfl, bWNr⟩
      have Y110 := hide (show WNr.heap[w.heap.size]? = some (.cells #[.string a0.core.kind, .bool a0.core.on, .bool a0.core.broken, s0, .int .i64 a0.core.count, t0] 58 : Obj) from (bWNr.block (w.heap.size) (Nat.lt_of_lt_of_le ((Array.getElem?_eq_some_iff.1 Y96.out).1) (by simp <;> omega))).trans Y96.out)
      have Y111 := hide (show WNr.heap[WS.heap.size]? = some (.cells #[.string (Pu.wrapP a0 a1).core.kind, .bool (Pu.wrapP a0 a1).core.on, .bool (Pu.wrapP a0 a1).core.broken, .slice AS (Pu.wrapP a0 a1).core.cells.length kS, .int .i64 (Pu.wrapP a0 a1).core.count, .slice BS (Pu.wrapP a0 a1).layers.length lS] 37 : Obj) from (bWNr.block (WS.heap.size) (Nat.lt_of_lt_of_le ((Array.getElem?_eq_some_iff.1 Y97.out).1) (by simp <;> omega))).trans Y97.out)
      have Y112 := hide (show WNr.heap[WS.heap.size + 1]? = some (.cells #[.int .i64 (Pu.wrapR a0 a1).code, .int .i64 (Pu.wrapR a0 a1).value, .string (Pu.wrapR a0 a1).text, .int .i64 (Pu.wrapR a0 a1).want, .int .i64 (Pu.wrapR a0 a1).had] 39 : Obj) from (bWNr.block (WS.heap.size + 1) (Nat.lt_of_lt_of_le ((Array.getElem?_eq_some_iff.1 Y98.out).1) (by simp <;> omega))).trans Y98.out)
      have Y113 := hide (show WNr.heap[WX.heap.size]? = some (.cells #[.string a0.core.kind, .bool a0.core.on, .bool a0.core.broken, .slice AX a0.core.cells.length kX, .int .i64 a0.core.count, .slice BX a0.layers.length lX] 37 : Obj) from (bWNr.block (WX.heap.size) (Nat.lt_of_lt_of_le ((Array.getElem?_eq_some_iff.1 Y99.out).1) (by simp <;> omega))).trans Y99.out)
      have Y114 := hide (show WNr.heap[WG.heap.size]? = some (.cells #[.string (Pu.wrapP a0 a1).core.kind, .bool (Pu.wrapP a0 a1).core.on, .bool (Pu.wrapP a0 a1).core.broken, .slice AG (Pu.wrapP a0 a1).core.cells.length kG, .int .i64 (Pu.wrapP a0 a1).core.count, .slice BG (Pu.wrapP a0 a1).layers.length lG] 37 : Obj) from (bWNr.block (WG.heap.size) (Nat.lt_of_lt_of_le ((Array.getElem?_eq_some_iff.1 Y100.out).1) (by simp <;> omega))).trans Y100.out)
      have Y115 := hide (show WNr.heap[WG.heap.size + 1]? = some (.cells #[.int .i64 (Pu.wrapR a0 a1).code, .int .i64 (Pu.wrapR a0 a1).value, .string (Pu.wrapR a0 a1).text, .int .i64 (Pu.wrapR a0 a1).want, .int .i64 (Pu.wrapR a0 a1).had] 39 : Obj) from (bWNr.block (WG.heap.size + 1) (Nat.lt_of_lt_of_le ((Array.getElem?_eq_some_iff.1 Y101.out).1) (by simp <;> omega))).trans Y101.out)
      have e116 : Below w0.heap.size w0 WNr := below_then e102 bWNr
      have e117 : Below WS.heap.size WS WNr := below_then e103 bWNr
      have bMN : Below WM.heap.size WM WNr := below_then bWN bWNr
      have gN := OwnL.below gM1 bMN (Nat.le_refl _)
      have hN := OwnL.below hM1 bMN (Nat.le_refl _)
      have z118 : w.heap.size < WNr.heap.size := (Array.getElem?_eq_some_iff.1 Y110.out).1
      obtain ⟨_, _, _, _, _, _, _⟩ := six_cells Y110.out
      have z119 : WS.heap.size < WNr.heap.size := (Array.getElem?_eq_some_iff.1 Y111.out).1
      obtain ⟨_, _, _, _, _, _, _⟩ := six_cells Y111.out
      have z120 : WS.heap.size + 1 < WNr.heap.size := (Array.getElem?_eq_some_iff.1 Y112.out).1
      obtain ⟨_, _, _, _, _, _⟩ := five_cells Y112.out
      have z121 : WX.heap.size < WNr.heap.size := (Array.getElem?_eq_some_iff.1 Y113.out).1
      obtain ⟨_, _, _, _, _, _, _⟩ := six_cells Y113.out
      have z122 : WG.heap.size < WNr.heap.size := (Array.getElem?_eq_some_iff.1 Y114.out).1
      obtain ⟨_, _, _, _, _, _, _⟩ := six_cells Y114.out
      have z123 : WG.heap.size + 1 < WNr.heap.size := (Array.getElem?_eq_some_iff.1 Y115.out).1
      obtain ⟨_, _, _, _, _, _⟩ := five_cells Y115.out
      go_wp2_with fail
      have hCN : ∀ g, (Value.slice AG (Pu.wrapP a0 a1).core.cells.length kG).ownBlock = some g ∨ (Value.slice BG (Pu.wrapP a0 a1).layers.length lG).ownBlock = some g → g < WG.heap.size := fun g h => by rcases h with h | h; exact (oG.lt h).2; exact (pG.lt h).2
      have gWG : WG.heap.size ≤ WNr.heap.size := by have h1 := wM.size; have h2 := bMN.size; have h3 := (Below.size e75); omega
      refine (markPart_c (Pu.wrapP a0 a1) _ _ _ _ 1 _ WG.heap.size _ gN hN nG hCN gWG (by omega) (by omega) (by omega) (by omega)).mono ?_; rintro e WQ ⟨rfl, oQ, pQ, wQ⟩
      have wQ1 : Within (WX.heap.size + 1) WG.heap.size WNr WQ := wQ.mono (by simp) (Nat.le_refl _)
      have bQ : Below WX.heap.size WNr WQ := wQ1.below (by omega) (by omega)
      have Y124 := hide (show WQ.heap[w.heap.size]? = some (.cells #[.string a0.core.kind, .bool a0.core.on, .bool a0.core.broken, s0, .int .i64 a0.core.count, t0] 58 : Obj) from (wQ1.block (w.heap.size) (Array.getElem?_eq_some_iff.1 Y110.out).1 (by first | exact .inl (by omega) | exact .inr (by omega))).trans Y110.out)
      have Y125 := hide (show WQ.heap[WS.heap.size]? = some (.cells #[.string (Pu.wrapP a0 a1).core.kind, .bool (Pu.wrapP a0 a1).core.on, .bool (Pu.wrapP a0 a1).core.broken, .slice AS (Pu.wrapP a0 a1).core.cells.length kS, .int .i64 (Pu.wrapP a0 a1).core.count, .slice BS (Pu.wrapP a0 a1).layers.length lS] 37 : Obj) from (wQ1.block (WS.heap.size) (Array.getElem?_eq_some_iff.1 Y111.out).1 (by first | exact .inl (by omega) | exact .inr (by omega))).trans Y111.out)
      have Y126 := hide (show WQ.heap[WS.heap.size + 1]? = some (.cells #[.int .i64 (Pu.wrapR a0 a1).code, .int .i64 (Pu.wrapR a0 a1).value, .string (Pu.wrapR a0 a1).text, .int .i64 (Pu.wrapR a0 a1).want, .int .i64 (Pu.wrapR a0 a1).had] 39 : Obj) from (wQ1.block (WS.heap.size + 1) (Array.getElem?_eq_some_iff.1 Y112.out).1 (by first | exact .inl (by omega) | exact .inr (by omega))).trans Y112.out)
      have Y127 := hide (show WQ.heap[WX.heap.size]? = some (.cells #[.string a0.core.kind, .bool a0.core.on, .bool a0.core.broken, .slice AX a0.core.cells.length kX, .int .i64 a0.core.count, .slice BX a0.layers.length lX] 37 : Obj) from (wQ1.block (WX.heap.size) (Array.getElem?_eq_some_iff.1 Y113.out).1 (by first | exact .inl (by omega) | exact .inr (by omega))).trans Y113.out)
      have Y128 := hide (show WQ.heap[WG.heap.size]? = some (.cells #[.string (Pu.wrapP a0 a1).core.kind, .bool (Pu.wrapP a0 a1).core.on, .bool (Pu.wrapP a0 a1).core.broken, .slice AG (Pu.wrapP a0 a1).core.cells.length kG, .int .i64 (Pu.wrapP a0 a1).core.count, .slice BG (Pu.wrapP a0 a1).layers.length lG] 37 : Obj) from (wQ1.block (WG.heap.size) (Array.getElem?_eq_some_iff.1 Y114.out).1 (by first | exact .inl (by omega) | exact .inr (by omega))).trans Y114.out)
      have Y129 := hide (show WQ.heap[WG.heap.size + 1]? = some (.cells #[.int .i64 (Pu.wrapR a0 a1).code, .int .i64 (Pu.wrapR a0 a1).value, .string (Pu.wrapR a0 a1).text, .int .i64 (Pu.wrapR a0 a1).want, .int .i64 (Pu.wrapR a0 a1).had] 39 : Obj) from (wQ1.block (WG.heap.size + 1) (Array.getElem?_eq_some_iff.1 Y115.out).1 (by first | exact .inl (by omega) | exact .inr (by omega))).trans Y115.out)
      have e130 : Below w0.heap.size w0 WQ := Below.trans e116 (bQ.mono (by first | exact Nat.le_refl _ | omega))
      have e131 : Below WS.heap.size WS WQ := Below.trans e117 (bQ.mono (by first | exact Nat.le_refl _ | omega))
      have rQ : RdL WQ 2 cellEn (.slice AG (Pu.wrapP a0 a1).core.cells.length kG) (Pu.gen (Pu.gC 1) (Pu.wrapP a0 a1).core.cells.length) := oQ.rd (fun _ => rfl)
      have rlQ : RdL WQ 2 layerEn (.slice BG (Pu.wrapP a0 a1).layers.length lG) (Pu.gen (Pu.gL (1 + 2 * (Pu.wrapP a0 a1).core.cells.length)) (Pu.wrapP a0 a1).layers.length) := pQ.rd (fun _ => rfl)
      have hk0 : ¬ (1 + 2 * ((Pu.wrapP a0 a1).core.cells.length : Int) + 2 * ((Pu.wrapP a0 a1).layers.length : Int)) < 0 := by omega
      have z132 : w.heap.size < WQ.heap.size := (Array.getElem?_eq_some_iff.1 Y124.out).1
      obtain ⟨_, _, _, _, _, _, _⟩ := six_cells Y124.out
      have z133 : WS.heap.size < WQ.heap.size := (Array.getElem?_eq_some_iff.1 Y125.out).1
      obtain ⟨_, _, _, _, _, _, _⟩ := six_cells Y125.out
      have z134 : WS.heap.size + 1 < WQ.heap.size := (Array.getElem?_eq_some_iff.1 Y126.out).1
      obtain ⟨_, _, _, _, _, _⟩ := five_cells Y126.out
      have z135 : WX.heap.size < WQ.heap.size := (Array.getElem?_eq_some_iff.1 Y127.out).1
      obtain ⟨_, _, _, _, _, _, _⟩ := six_cells Y127.out
      have z136 : WG.heap.size < WQ.heap.size := (Array.getElem?_eq_some_iff.1 Y128.out).1
      obtain ⟨_, _, _, _, _, _, _⟩ := six_cells Y128.out
      have z137 : WG.heap.size + 1 < WQ.heap.size := (Array.getElem?_eq_some_iff.1 Y129.out).1
      obtain ⟨_, _, _, _, _, _⟩ := five_cells Y129.out
      go_wp2_with fail
      refine (heldPart_c (Pu.wrapP a0 a1) _ _ _ _ 1 _ (RdL.below rQ (Below.refl _ _) (Nat.le_refl _)) (RdL.below rlQ (Below.refl _ _) (Nat.le_refl _)) (by omega) (by omega) (by omega) (by omega)).mono ?_; rintro e WU ⟨rfl, bWU⟩
      have Y138 := hide (show WU.heap[w.heap.size]? = some (.cells #[.string a0.core.kind, .bool a0.core.on, .bool a0.core.broken, s0, .int .i64 a0.core.count, t0] 58 : Obj) from (bWU.block (w.heap.size) (Nat.lt_of_lt_of_le ((Array.getElem?_eq_some_iff.1 Y124.out).1) (by simp <;> omega))).trans Y124.out)
      have Y139 := hide (show WU.heap[WS.heap.size]? = some (.cells #[.string (Pu.wrapP a0 a1).core.kind, .bool (Pu.wrapP a0 a1).core.on, .bool (Pu.wrapP a0 a1).core.broken, .slice AS (Pu.wrapP a0 a1).core.cells.length kS, .int .i64 (Pu.wrapP a0 a1).core.count, .slice BS (Pu.wrapP a0 a1).layers.length lS] 37 : Obj) from (bWU.block (WS.heap.size) (Nat.lt_of_lt_of_le ((Array.getElem?_eq_some_iff.1 Y125.out).1) (by simp <;> omega))).trans Y125.out)
      have Y140 := hide (show WU.heap[WS.heap.size + 1]? = some (.cells #[.int .i64 (Pu.wrapR a0 a1).code, .int .i64 (Pu.wrapR a0 a1).value, .string (Pu.wrapR a0 a1).text, .int .i64 (Pu.wrapR a0 a1).want, .int .i64 (Pu.wrapR a0 a1).had] 39 : Obj) from (bWU.block (WS.heap.size + 1) (Nat.lt_of_lt_of_le ((Array.getElem?_eq_some_iff.1 Y126.out).1) (by simp <;> omega))).trans Y126.out)
      have Y141 := hide (show WU.heap[WX.heap.size]? = some (.cells #[.string a0.core.kind, .bool a0.core.on, .bool a0.core.broken, .slice AX a0.core.cells.length kX, .int .i64 a0.core.count, .slice BX a0.layers.length lX] 37 : Obj) from (bWU.block (WX.heap.size) (Nat.lt_of_lt_of_le ((Array.getElem?_eq_some_iff.1 Y127.out).1) (by simp <;> omega))).trans Y127.out)
      have Y142 := hide (show WU.heap[WG.heap.size]? = some (.cells #[.string (Pu.wrapP a0 a1).core.kind, .bool (Pu.wrapP a0 a1).core.on, .bool (Pu.wrapP a0 a1).core.broken, .slice AG (Pu.wrapP a0 a1).core.cells.length kG, .int .i64 (Pu.wrapP a0 a1).core.count, .slice BG (Pu.wrapP a0 a1).layers.length lG] 37 : Obj) from (bWU.block (WG.heap.size) (Nat.lt_of_lt_of_le ((Array.getElem?_eq_some_iff.1 Y128.out).1) (by simp <;> omega))).trans Y128.out)
      have Y143 := hide (show WU.heap[WG.heap.size + 1]? = some (.cells #[.int .i64 (Pu.wrapR a0 a1).code, .int .i64 (Pu.wrapR a0 a1).value, .string (Pu.wrapR a0 a1).text, .int .i64 (Pu.wrapR a0 a1).want, .int .i64 (Pu.wrapR a0 a1).had] 39 : Obj) from (bWU.block (WG.heap.size + 1) (Nat.lt_of_lt_of_le ((Array.getElem?_eq_some_iff.1 Y129.out).1) (by simp <;> omega))).trans Y129.out)
      have e144 : Below w0.heap.size w0 WU := below_then e130 bWU
      have e145 : Below WS.heap.size WS WU := below_then e131 bWU
      have e146 : Below WQ.heap.size WQ WU := below_then (Below.refl _ _) bWU
      have z147 : w.heap.size < WU.heap.size := (Array.getElem?_eq_some_iff.1 Y138.out).1
      obtain ⟨_, _, _, _, _, _, _⟩ := six_cells Y138.out
      have z148 : WS.heap.size < WU.heap.size := (Array.getElem?_eq_some_iff.1 Y139.out).1
      obtain ⟨_, _, _, _, _, _, _⟩ := six_cells Y139.out
      have z149 : WS.heap.size + 1 < WU.heap.size := (Array.getElem?_eq_some_iff.1 Y140.out).1
      obtain ⟨_, _, _, _, _, _⟩ := five_cells Y140.out
      have z150 : WX.heap.size < WU.heap.size := (Array.getElem?_eq_some_iff.1 Y141.out).1
      obtain ⟨_, _, _, _, _, _, _⟩ := six_cells Y141.out
      have z151 : WG.heap.size < WU.heap.size := (Array.getElem?_eq_some_iff.1 Y142.out).1
      obtain ⟨_, _, _, _, _, _, _⟩ := six_cells Y142.out
      have z152 : WG.heap.size + 1 < WU.heap.size := (Array.getElem?_eq_some_iff.1 Y143.out).1
      obtain ⟨_, _, _, _, _, _⟩ := five_cells Y143.out
      have z153 : w.heap.size < WU.heap.size := (Array.getElem?_eq_some_iff.1 Y138.out).1
      obtain ⟨_, _, _, _, _, _, _⟩ := six_cells Y138.out
      go_wp2_with fail
      refine (toPart_c a0 s0 t0 _ (RdL.below q0 e144 (Nat.le_refl _)) hln0 (RdL.below q1 e144 (Nat.le_refl _)) hll0).mono ?_; rintro e WV ⟨vV, uV, rfl, oV, pV, nV, bV⟩
      have Y154 := hide (show WV.heap[w.heap.size]? = some (.cells #[.string a0.core.kind, .bool a0.core.on, .bool a0.core.broken, s0, .int .i64 a0.core.count, t0] 58 : Obj) from (bV.block (w.heap.size) (Nat.lt_of_lt_of_le ((Array.getElem?_eq_some_iff.1 Y138.out).1) (by simp <;> omega))).trans Y138.out)
      have Y155 := hide (show WV.heap[WS.heap.size]? = some (.cells #[.string (Pu.wrapP a0 a1).core.kind, .bool (Pu.wrapP a0 a1).core.on, .bool (Pu.wrapP a0 a1).core.broken, .slice AS (Pu.wrapP a0 a1).core.cells.length kS, .int .i64 (Pu.wrapP a0 a1).core.count, .slice BS (Pu.wrapP a0 a1).layers.length lS] 37 : Obj) from (bV.block (WS.heap.size) (Nat.lt_of_lt_of_le ((Array.getElem?_eq_some_iff.1 Y139.out).1) (by simp <;> omega))).trans Y139.out)
      have Y156 := hide (show WV.heap[WS.heap.size + 1]? = some (.cells #[.int .i64 (Pu.wrapR a0 a1).code, .int .i64 (Pu.wrapR a0 a1).value, .string (Pu.wrapR a0 a1).text, .int .i64 (Pu.wrapR a0 a1).want, .int .i64 (Pu.wrapR a0 a1).had] 39 : Obj) from (bV.block (WS.heap.size + 1) (Nat.lt_of_lt_of_le ((Array.getElem?_eq_some_iff.1 Y140.out).1) (by simp <;> omega))).trans Y140.out)
      have Y157 := hide (show WV.heap[WX.heap.size]? = some (.cells #[.string a0.core.kind, .bool a0.core.on, .bool a0.core.broken, .slice AX a0.core.cells.length kX, .int .i64 a0.core.count, .slice BX a0.layers.length lX] 37 : Obj) from (bV.block (WX.heap.size) (Nat.lt_of_lt_of_le ((Array.getElem?_eq_some_iff.1 Y141.out).1) (by simp <;> omega))).trans Y141.out)
      have Y158 := hide (show WV.heap[WG.heap.size]? = some (.cells #[.string (Pu.wrapP a0 a1).core.kind, .bool (Pu.wrapP a0 a1).core.on, .bool (Pu.wrapP a0 a1).core.broken, .slice AG (Pu.wrapP a0 a1).core.cells.length kG, .int .i64 (Pu.wrapP a0 a1).core.count, .slice BG (Pu.wrapP a0 a1).layers.length lG] 37 : Obj) from (bV.block (WG.heap.size) (Nat.lt_of_lt_of_le ((Array.getElem?_eq_some_iff.1 Y142.out).1) (by simp <;> omega))).trans Y142.out)
      have Y159 := hide (show WV.heap[WG.heap.size + 1]? = some (.cells #[.int .i64 (Pu.wrapR a0 a1).code, .int .i64 (Pu.wrapR a0 a1).value, .string (Pu.wrapR a0 a1).text, .int .i64 (Pu.wrapR a0 a1).want, .int .i64 (Pu.wrapR a0 a1).had] 39 : Obj) from (bV.block (WG.heap.size + 1) (Nat.lt_of_lt_of_le ((Array.getElem?_eq_some_iff.1 Y143.out).1) (by simp <;> omega))).trans Y143.out)
      have e160 : Below w0.heap.size w0 WV := below_then e144 bV
      have e161 : Below WS.heap.size WS WV := below_then e145 bV
      have e162 : Below WQ.heap.size WQ WV := below_then e146 bV
      have rV : RdL WV 2 cellEn vV a0.core.cells := oV.rd (fun _ => rfl)
      have rlV : RdL WV 2 layerEn uV a0.layers := pV.rd (fun _ => rfl)
      go_wp2_with fail
      refine (iWrap_c a0 a1 _ _ _ WF0.out ⟨(RdL.below rV (Below.refl _ _) (Nat.le_refl _)), Z0.out⟩ (RdL.below rlV (Below.refl _ _) (Nat.le_refl _)) (by omega) (by omega)).mono ?_; rintro e WL ⟨⟨vL, uL, rfl, oL, pL, nL⟩, bL⟩
      obtain ⟨AL, kL, rfl⟩ := oL.shape
      obtain ⟨BL, lL, rfl⟩ := pL.shape
      unfold partV replyV
      have Y163 := hide (show WL.heap[w.heap.size]? = some (.cells #[.string a0.core.kind, .bool a0.core.on, .bool a0.core.broken, s0, .int .i64 a0.core.count, t0] 58 : Obj) from (bL.block (w.heap.size) (Nat.lt_of_lt_of_le ((Array.getElem?_eq_some_iff.1 Y154.out).1) (by simp <;> omega))).trans Y154.out)
      have Y164 := hide (show WL.heap[WS.heap.size]? = some (.cells #[.string (Pu.wrapP a0 a1).core.kind, .bool (Pu.wrapP a0 a1).core.on, .bool (Pu.wrapP a0 a1).core.broken, .slice AS (Pu.wrapP a0 a1).core.cells.length kS, .int .i64 (Pu.wrapP a0 a1).core.count, .slice BS (Pu.wrapP a0 a1).layers.length lS] 37 : Obj) from (bL.block (WS.heap.size) (Nat.lt_of_lt_of_le ((Array.getElem?_eq_some_iff.1 Y155.out).1) (by simp <;> omega))).trans Y155.out)
      have Y165 := hide (show WL.heap[WS.heap.size + 1]? = some (.cells #[.int .i64 (Pu.wrapR a0 a1).code, .int .i64 (Pu.wrapR a0 a1).value, .string (Pu.wrapR a0 a1).text, .int .i64 (Pu.wrapR a0 a1).want, .int .i64 (Pu.wrapR a0 a1).had] 39 : Obj) from (bL.block (WS.heap.size + 1) (Nat.lt_of_lt_of_le ((Array.getElem?_eq_some_iff.1 Y156.out).1) (by simp <;> omega))).trans Y156.out)
      have Y166 := hide (show WL.heap[WX.heap.size]? = some (.cells #[.string a0.core.kind, .bool a0.core.on, .bool a0.core.broken, .slice AX a0.core.cells.length kX, .int .i64 a0.core.count, .slice BX a0.layers.length lX] 37 : Obj) from (bL.block (WX.heap.size) (Nat.lt_of_lt_of_le ((Array.getElem?_eq_some_iff.1 Y157.out).1) (by simp <;> omega))).trans Y157.out)
      have Y167 := hide (show WL.heap[WG.heap.size]? = some (.cells #[.string (Pu.wrapP a0 a1).core.kind, .bool (Pu.wrapP a0 a1).core.on, .bool (Pu.wrapP a0 a1).core.broken, .slice AG (Pu.wrapP a0 a1).core.cells.length kG, .int .i64 (Pu.wrapP a0 a1).core.count, .slice BG (Pu.wrapP a0 a1).layers.length lG] 37 : Obj) from (bL.block (WG.heap.size) (Nat.lt_of_lt_of_le ((Array.getElem?_eq_some_iff.1 Y158.out).1) (by simp <;> omega))).trans Y158.out)
      have Y168 := hide (show WL.heap[WG.heap.size + 1]? = some (.cells #[.int .i64 (Pu.wrapR a0 a1).code, .int .i64 (Pu.wrapR a0 a1).value, .string (Pu.wrapR a0 a1).text, .int .i64 (Pu.wrapR a0 a1).want, .int .i64 (Pu.wrapR a0 a1).had] 39 : Obj) from (bL.block (WG.heap.size + 1) (Nat.lt_of_lt_of_le ((Array.getElem?_eq_some_iff.1 Y159.out).1) (by simp <;> omega))).trans Y159.out)
      have e169 : Below w0.heap.size w0 WL := below_then e160 bL
      have e170 : Below WS.heap.size WS WL := below_then e161 bL
      have e171 : Below WQ.heap.size WQ WL := below_then e162 bL
      have e172 : Below WV.heap.size WV WL := below_then (Below.refl _ _) bL
      have rL : RdL WL 2 cellEn (.slice AL (Pu.wrapP a0 a1).core.cells.length kL) (Pu.wrapP a0 a1).core.cells := oL.rd (fun _ => rfl)
      have rlL : RdL WL 2 layerEn (.slice BL (Pu.wrapP a0 a1).layers.length lL) (Pu.wrapP a0 a1).layers := pL.rd (fun _ => rfl)
      have z173 : w.heap.size < WL.heap.size := (Array.getElem?_eq_some_iff.1 Y163.out).1
      obtain ⟨_, _, _, _, _, _, _⟩ := six_cells Y163.out
      have z174 : WS.heap.size < WL.heap.size := (Array.getElem?_eq_some_iff.1 Y164.out).1
      obtain ⟨_, _, _, _, _, _, _⟩ := six_cells Y164.out
      have z175 : WS.heap.size + 1 < WL.heap.size := (Array.getElem?_eq_some_iff.1 Y165.out).1
      obtain ⟨_, _, _, _, _, _⟩ := five_cells Y165.out
      have z176 : WX.heap.size < WL.heap.size := (Array.getElem?_eq_some_iff.1 Y166.out).1
      obtain ⟨_, _, _, _, _, _, _⟩ := six_cells Y166.out
      have z177 : WG.heap.size < WL.heap.size := (Array.getElem?_eq_some_iff.1 Y167.out).1
      obtain ⟨_, _, _, _, _, _, _⟩ := six_cells Y167.out
      have z178 : WG.heap.size + 1 < WL.heap.size := (Array.getElem?_eq_some_iff.1 Y168.out).1
      obtain ⟨_, _, _, _, _, _⟩ := five_cells Y168.out
      go_wp2_with fail
      refine (eqPart_c (Pu.wrapP a0 a1) (Pu.wrapP a0 a1) _ _ _ _ _ rfl (RdL.below rL (below_alloc (below_alloc (Below.refl _ _) _) _) (Nat.le_refl _)) (RdL.below rlL (below_alloc (below_alloc (Below.refl _ _) _) _) (Nat.le_refl _)) (RdL.below rS (below_alloc (below_alloc e170 _) _) (Nat.le_refl _)) (RdL.below rlS (below_alloc (below_alloc e170 _) _) (Nat.le_refl _))).mono ?_; rintro e WO ⟨rfl, bWO⟩
      have Y179 := hide (show WO.heap[w.heap.size]? = some (.cells #[.string a0.core.kind, .bool a0.core.on, .bool a0.core.broken, s0, .int .i64 a0.core.count, t0] 58 : Obj) from (bWO.block (w.heap.size) (Nat.lt_of_lt_of_le ((Array.getElem?_eq_some_iff.1 Y163.out).1) (by simp <;> omega))).trans (heap_old (Nat.lt_of_lt_of_le ((Array.getElem?_eq_some_iff.1 Y163.out).1) (by simp)) (heap_old ((Array.getElem?_eq_some_iff.1 Y163.out).1) Y163.out)))
      have Y180 := hide (show WO.heap[WS.heap.size]? = some (.cells #[.string (Pu.wrapP a0 a1).core.kind, .bool (Pu.wrapP a0 a1).core.on, .bool (Pu.wrapP a0 a1).core.broken, .slice AS (Pu.wrapP a0 a1).core.cells.length kS, .int .i64 (Pu.wrapP a0 a1).core.count, .slice BS (Pu.wrapP a0 a1).layers.length lS] 37 : Obj) from (bWO.block (WS.heap.size) (Nat.lt_of_lt_of_le ((Array.getElem?_eq_some_iff.1 Y164.out).1) (by simp <;> omega))).trans (heap_old (Nat.lt_of_lt_of_le ((Array.getElem?_eq_some_iff.1 Y164.out).1) (by simp)) (heap_old ((Array.getElem?_eq_some_iff.1 Y164.out).1) Y164.out)))
      have Y181 := hide (show WO.heap[WS.heap.size + 1]? = some (.cells #[.int .i64 (Pu.wrapR a0 a1).code, .int .i64 (Pu.wrapR a0 a1).value, .string (Pu.wrapR a0 a1).text, .int .i64 (Pu.wrapR a0 a1).want, .int .i64 (Pu.wrapR a0 a1).had] 39 : Obj) from (bWO.block (WS.heap.size + 1) (Nat.lt_of_lt_of_le ((Array.getElem?_eq_some_iff.1 Y165.out).1) (by simp <;> omega))).trans (heap_old (Nat.lt_of_lt_of_le ((Array.getElem?_eq_some_iff.1 Y165.out).1) (by simp)) (heap_old ((Array.getElem?_eq_some_iff.1 Y165.out).1) Y165.out)))
      have Y182 := hide (show WO.heap[WX.heap.size]? = some (.cells #[.string a0.core.kind, .bool a0.core.on, .bool a0.core.broken, .slice AX a0.core.cells.length kX, .int .i64 a0.core.count, .slice BX a0.layers.length lX] 37 : Obj) from (bWO.block (WX.heap.size) (Nat.lt_of_lt_of_le ((Array.getElem?_eq_some_iff.1 Y166.out).1) (by simp <;> omega))).trans (heap_old (Nat.lt_of_lt_of_le ((Array.getElem?_eq_some_iff.1 Y166.out).1) (by simp)) (heap_old ((Array.getElem?_eq_some_iff.1 Y166.out).1) Y166.out)))
      have Y183 := hide (show WO.heap[WG.heap.size]? = some (.cells #[.string (Pu.wrapP a0 a1).core.kind, .bool (Pu.wrapP a0 a1).core.on, .bool (Pu.wrapP a0 a1).core.broken, .slice AG (Pu.wrapP a0 a1).core.cells.length kG, .int .i64 (Pu.wrapP a0 a1).core.count, .slice BG (Pu.wrapP a0 a1).layers.length lG] 37 : Obj) from (bWO.block (WG.heap.size) (Nat.lt_of_lt_of_le ((Array.getElem?_eq_some_iff.1 Y167.out).1) (by simp <;> omega))).trans (heap_old (Nat.lt_of_lt_of_le ((Array.getElem?_eq_some_iff.1 Y167.out).1) (by simp)) (heap_old ((Array.getElem?_eq_some_iff.1 Y167.out).1) Y167.out)))
      have Y184 := hide (show WO.heap[WG.heap.size + 1]? = some (.cells #[.int .i64 (Pu.wrapR a0 a1).code, .int .i64 (Pu.wrapR a0 a1).value, .string (Pu.wrapR a0 a1).text, .int .i64 (Pu.wrapR a0 a1).want, .int .i64 (Pu.wrapR a0 a1).had] 39 : Obj) from (bWO.block (WG.heap.size + 1) (Nat.lt_of_lt_of_le ((Array.getElem?_eq_some_iff.1 Y168.out).1) (by simp <;> omega))).trans (heap_old (Nat.lt_of_lt_of_le ((Array.getElem?_eq_some_iff.1 Y168.out).1) (by simp)) (heap_old ((Array.getElem?_eq_some_iff.1 Y168.out).1) Y168.out)))
      have Y185 := hide (show WO.heap[WL.heap.size]? = some (.cells #[.string (Pu.wrapP a0 a1).core.kind, .bool (Pu.wrapP a0 a1).core.on, .bool (Pu.wrapP a0 a1).core.broken, .slice AL (Pu.wrapP a0 a1).core.cells.length kL, .int .i64 (Pu.wrapP a0 a1).core.count, .slice BL (Pu.wrapP a0 a1).layers.length lL] 37 : Obj) from (bWO.block (WL.heap.size) (by simp <;> omega)).trans (heap_old (by simp <;> omega) (heap_new (by simp))))
      have Y186 := hide (show WO.heap[WL.heap.size + 1]? = some (.cells #[.int .i64 (Pu.wrapR a0 a1).code, .int .i64 (Pu.wrapR a0 a1).value, .string (Pu.wrapR a0 a1).text, .int .i64 (Pu.wrapR a0 a1).want, .int .i64 (Pu.wrapR a0 a1).had] 39 : Obj) from (bWO.block (WL.heap.size + 1) (by simp <;> omega)).trans (heap_new (by simp)))
      have e187 : Below w0.heap.size w0 WO := below_then (below_alloc (below_alloc e169 _) _) bWO
      have e188 : Below WS.heap.size WS WO := below_then (below_alloc (below_alloc e170 _) _) bWO
      have e189 : Below WQ.heap.size WQ WO := below_then (below_alloc (below_alloc e171 _) _) bWO
      have e190 : Below WV.heap.size WV WO := below_then (below_alloc (below_alloc e172 _) _) bWO
      have e191 : Below WL.heap.size WL WO := below_then (below_alloc (below_alloc (Below.refl _ _) _) _) bWO
      have z192 : w.heap.size < WO.heap.size := (Array.getElem?_eq_some_iff.1 Y179.out).1
      obtain ⟨_, _, _, _, _, _, _⟩ := six_cells Y179.out
      have z193 : WS.heap.size < WO.heap.size := (Array.getElem?_eq_some_iff.1 Y180.out).1
      obtain ⟨_, _, _, _, _, _, _⟩ := six_cells Y180.out
      have z194 : WS.heap.size + 1 < WO.heap.size := (Array.getElem?_eq_some_iff.1 Y181.out).1
      obtain ⟨_, _, _, _, _, _⟩ := five_cells Y181.out
      have z195 : WX.heap.size < WO.heap.size := (Array.getElem?_eq_some_iff.1 Y182.out).1
      obtain ⟨_, _, _, _, _, _, _⟩ := six_cells Y182.out
      have z196 : WG.heap.size < WO.heap.size := (Array.getElem?_eq_some_iff.1 Y183.out).1
      obtain ⟨_, _, _, _, _, _, _⟩ := six_cells Y183.out
      have z197 : WG.heap.size + 1 < WO.heap.size := (Array.getElem?_eq_some_iff.1 Y184.out).1
      obtain ⟨_, _, _, _, _, _⟩ := five_cells Y184.out
      have z198 : WL.heap.size < WO.heap.size := (Array.getElem?_eq_some_iff.1 Y185.out).1
      obtain ⟨_, _, _, _, _, _, _⟩ := six_cells Y185.out
      have z199 : WL.heap.size + 1 < WO.heap.size := (Array.getElem?_eq_some_iff.1 Y186.out).1
      obtain ⟨_, _, _, _, _, _⟩ := five_cells Y186.out
      go_wp2_with fail
      refine (eqReply_c (Pu.wrapR a0 a1) _).mono ?_; rintro e WOr ⟨rfl, bWOr⟩
      have Y200 := hide (show WOr.heap[w.heap.size]? = some (.cells #[.string a0.core.kind, .bool a0.core.on, .bool a0.core.broken, s0, .int .i64 a0.core.count, t0] 58 : Obj) from (bWOr.block (w.heap.size) (Nat.lt_of_lt_of_le ((Array.getElem?_eq_some_iff.1 Y179.out).1) (by simp <;> omega))).trans Y179.out)
      have Y201 := hide (show WOr.heap[WS.heap.size]? = some (.cells #[.string (Pu.wrapP a0 a1).core.kind, .bool (Pu.wrapP a0 a1).core.on, .bool (Pu.wrapP a0 a1).core.broken, .slice AS (Pu.wrapP a0 a1).core.cells.length kS, .int .i64 (Pu.wrapP a0 a1).core.count, .slice BS (Pu.wrapP a0 a1).layers.length lS] 37 : Obj) from (bWOr.block (WS.heap.size) (Nat.lt_of_lt_of_le ((Array.getElem?_eq_some_iff.1 Y180.out).1) (by simp <;> omega))).trans Y180.out)
      have Y202 := hide (show WOr.heap[WS.heap.size + 1]? = some (.cells #[.int .i64 (Pu.wrapR a0 a1).code, .int .i64 (Pu.wrapR a0 a1).value, .string (Pu.wrapR a0 a1).text, .int .i64 (Pu.wrapR a0 a1).want, .int .i64 (Pu.wrapR a0 a1).had] 39 : Obj) from (bWOr.block (WS.heap.size + 1) (Nat.lt_of_lt_of_le ((Array.getElem?_eq_some_iff.1 Y181.out).1) (by simp <;> omega))).trans Y181.out)
      have Y203 := hide (show WOr.heap[WX.heap.size]? = some (.cells #[.string a0.core.kind, .bool a0.core.on, .bool a0.core.broken, .slice AX a0.core.cells.length kX, .int .i64 a0.core.count, .slice BX a0.layers.length lX] 37 : Obj) from (bWOr.block (WX.heap.size) (Nat.lt_of_lt_of_le ((Array.getElem?_eq_some_iff.1 Y182.out).1) (by simp <;> omega))).trans Y182.out)
      have Y204 := hide (show WOr.heap[WG.heap.size]? = some (.cells #[.string (Pu.wrapP a0 a1).core.kind, .bool (Pu.wrapP a0 a1).core.on, .bool (Pu.wrapP a0 a1).core.broken, .slice AG (Pu.wrapP a0 a1).core.cells.length kG, .int .i64 (Pu.wrapP a0 a1).core.count, .slice BG (Pu.wrapP a0 a1).layers.length lG] 37 : Obj) from (bWOr.block (WG.heap.size) (Nat.lt_of_lt_of_le ((Array.getElem?_eq_some_iff.1 Y183.out).1) (by simp <;> omega))).trans Y183.out)
      have Y205 := hide (show WOr.heap[WG.heap.size + 1]? = some (.cells #[.int .i64 (Pu.wrapR a0 a1).code, .int .i64 (Pu.wrapR a0 a1).value, .string (Pu.wrapR a0 a1).text, .int .i64 (Pu.wrapR a0 a1).want, .int .i64 (Pu.wrapR a0 a1).had] 39 : Obj) from (bWOr.block (WG.heap.size + 1) (Nat.lt_of_lt_of_le ((Array.getElem?_eq_some_iff.1 Y184.out).1) (by simp <;> omega))).trans Y184.out)
      have Y206 := hide (show WOr.heap[WL.heap.size]? = some (.cells #[.string (Pu.wrapP a0 a1).core.kind, .bool (Pu.wrapP a0 a1).core.on, .bool (Pu.wrapP a0 a1).core.broken, .slice AL (Pu.wrapP a0 a1).core.cells.length kL, .int .i64 (Pu.wrapP a0 a1).core.count, .slice BL (Pu.wrapP a0 a1).layers.length lL] 37 : Obj) from (bWOr.block (WL.heap.size) (Nat.lt_of_lt_of_le ((Array.getElem?_eq_some_iff.1 Y185.out).1) (by simp <;> omega))).trans Y185.out)
      have Y207 := hide (show WOr.heap[WL.heap.size + 1]? = some (.cells #[.int .i64 (Pu.wrapR a0 a1).code, .int .i64 (Pu.wrapR a0 a1).value, .string (Pu.wrapR a0 a1).text, .int .i64 (Pu.wrapR a0 a1).want, .int .i64 (Pu.wrapR a0 a1).had] 39 : Obj) from (bWOr.block (WL.heap.size + 1) (Nat.lt_of_lt_of_le ((Array.getElem?_eq_some_iff.1 Y186.out).1) (by simp <;> omega))).trans Y186.out)
      have e208 : Below w0.heap.size w0 WOr := below_then e187 bWOr
      have e209 : Below WS.heap.size WS WOr := below_then e188 bWOr
      have e210 : Below WQ.heap.size WQ WOr := below_then e189 bWOr
      have e211 : Below WV.heap.size WV WOr := below_then e190 bWOr
      have e212 : Below WL.heap.size WL WOr := below_then e191 bWOr
      have z213 : w.heap.size < WOr.heap.size := (Array.getElem?_eq_some_iff.1 Y200.out).1
      obtain ⟨_, _, _, _, _, _, _⟩ := six_cells Y200.out
      have z214 : WS.heap.size < WOr.heap.size := (Array.getElem?_eq_some_iff.1 Y201.out).1
      obtain ⟨_, _, _, _, _, _, _⟩ := six_cells Y201.out
      have z215 : WS.heap.size + 1 < WOr.heap.size := (Array.getElem?_eq_some_iff.1 Y202.out).1
      obtain ⟨_, _, _, _, _, _⟩ := five_cells Y202.out
      have z216 : WX.heap.size < WOr.heap.size := (Array.getElem?_eq_some_iff.1 Y203.out).1
      obtain ⟨_, _, _, _, _, _, _⟩ := six_cells Y203.out
      have z217 : WG.heap.size < WOr.heap.size := (Array.getElem?_eq_some_iff.1 Y204.out).1
      obtain ⟨_, _, _, _, _, _, _⟩ := six_cells Y204.out
      have z218 : WG.heap.size + 1 < WOr.heap.size := (Array.getElem?_eq_some_iff.1 Y205.out).1
      obtain ⟨_, _, _, _, _, _⟩ := five_cells Y205.out
      have z219 : WL.heap.size < WOr.heap.size := (Array.getElem?_eq_some_iff.1 Y206.out).1
      obtain ⟨_, _, _, _, _, _, _⟩ := six_cells Y206.out
      have z220 : WL.heap.size + 1 < WOr.heap.size := (Array.getElem?_eq_some_iff.1 Y207.out).1
      obtain ⟨_, _, _, _, _, _⟩ := five_cells Y207.out
      go_wp2_with fail
      refine (heldPart_c (Pu.wrapP a0 a1) _ _ _ _ 1 _ (RdL.below rQ e210 (Nat.le_refl _)) (RdL.below rlQ e210 (Nat.le_refl _)) (by omega) (by omega) (by omega) (by omega)).mono ?_; rintro e WJ ⟨rfl, bWJ⟩
      have Y221 := hide (show WJ.heap[w.heap.size]? = some (.cells #[.string a0.core.kind, .bool a0.core.on, .bool a0.core.broken, s0, .int .i64 a0.core.count, t0] 58 : Obj) from (bWJ.block (w.heap.size) (Nat.lt_of_lt_of_le ((Array.getElem?_eq_some_iff.1 Y200.out).1) (by simp <;> omega))).trans Y200.out)
      have Y222 := hide (show WJ.heap[WS.heap.size]? = some (.cells #[.string (Pu.wrapP a0 a1).core.kind, .bool (Pu.wrapP a0 a1).core.on, .bool (Pu.wrapP a0 a1).core.broken, .slice AS (Pu.wrapP a0 a1).core.cells.length kS, .int .i64 (Pu.wrapP a0 a1).core.count, .slice BS (Pu.wrapP a0 a1).layers.length lS] 37 : Obj) from (bWJ.block (WS.heap.size) (Nat.lt_of_lt_of_le ((Array.getElem?_eq_some_iff.1 Y201.out).1) (by simp <;> omega))).trans Y201.out)
      have Y223 := hide (show WJ.heap[WS.heap.size + 1]? = some (.cells #[.int .i64 (Pu.wrapR a0 a1).code, .int .i64 (Pu.wrapR a0 a1).value, .string (Pu.wrapR a0 a1).text, .int .i64 (Pu.wrapR a0 a1).want, .int .i64 (Pu.wrapR a0 a1).had] 39 : Obj) from (bWJ.block (WS.heap.size + 1) (Nat.lt_of_lt_of_le ((Array.getElem?_eq_some_iff.1 Y202.out).1) (by simp <;> omega))).trans Y202.out)
      have Y224 := hide (show WJ.heap[WX.heap.size]? = some (.cells #[.string a0.core.kind, .bool a0.core.on, .bool a0.core.broken, .slice AX a0.core.cells.length kX, .int .i64 a0.core.count, .slice BX a0.layers.length lX] 37 : Obj) from (bWJ.block (WX.heap.size) (Nat.lt_of_lt_of_le ((Array.getElem?_eq_some_iff.1 Y203.out).1) (by simp <;> omega))).trans Y203.out)
      have Y225 := hide (show WJ.heap[WG.heap.size]? = some (.cells #[.string (Pu.wrapP a0 a1).core.kind, .bool (Pu.wrapP a0 a1).core.on, .bool (Pu.wrapP a0 a1).core.broken, .slice AG (Pu.wrapP a0 a1).core.cells.length kG, .int .i64 (Pu.wrapP a0 a1).core.count, .slice BG (Pu.wrapP a0 a1).layers.length lG] 37 : Obj) from (bWJ.block (WG.heap.size) (Nat.lt_of_lt_of_le ((Array.getElem?_eq_some_iff.1 Y204.out).1) (by simp <;> omega))).trans Y204.out)
      have Y226 := hide (show WJ.heap[WG.heap.size + 1]? = some (.cells #[.int .i64 (Pu.wrapR a0 a1).code, .int .i64 (Pu.wrapR a0 a1).value, .string (Pu.wrapR a0 a1).text, .int .i64 (Pu.wrapR a0 a1).want, .int .i64 (Pu.wrapR a0 a1).had] 39 : Obj) from (bWJ.block (WG.heap.size + 1) (Nat.lt_of_lt_of_le ((Array.getElem?_eq_some_iff.1 Y205.out).1) (by simp <;> omega))).trans Y205.out)
      have Y227 := hide (show WJ.heap[WL.heap.size]? = some (.cells #[.string (Pu.wrapP a0 a1).core.kind, .bool (Pu.wrapP a0 a1).core.on, .bool (Pu.wrapP a0 a1).core.broken, .slice AL (Pu.wrapP a0 a1).core.cells.length kL, .int .i64 (Pu.wrapP a0 a1).core.count, .slice BL (Pu.wrapP a0 a1).layers.length lL] 37 : Obj) from (bWJ.block (WL.heap.size) (Nat.lt_of_lt_of_le ((Array.getElem?_eq_some_iff.1 Y206.out).1) (by simp <;> omega))).trans Y206.out)
      have Y228 := hide (show WJ.heap[WL.heap.size + 1]? = some (.cells #[.int .i64 (Pu.wrapR a0 a1).code, .int .i64 (Pu.wrapR a0 a1).value, .string (Pu.wrapR a0 a1).text, .int .i64 (Pu.wrapR a0 a1).want, .int .i64 (Pu.wrapR a0 a1).had] 39 : Obj) from (bWJ.block (WL.heap.size + 1) (Nat.lt_of_lt_of_le ((Array.getElem?_eq_some_iff.1 Y207.out).1) (by simp <;> omega))).trans Y207.out)
      have e229 : Below w0.heap.size w0 WJ := below_then e208 bWJ
      have e230 : Below WS.heap.size WS WJ := below_then e209 bWJ
      have e231 : Below WQ.heap.size WQ WJ := below_then e210 bWJ
      have e232 : Below WV.heap.size WV WJ := below_then e211 bWJ
      have e233 : Below WL.heap.size WL WJ := below_then e212 bWJ
      go_wp2
      go_ret
      exact ⟨rfl, below_then b0 e229⟩
    · have hsz : Hid (Pu.szPart a0 1048576 = -1) := by rw [Hid, Pu.szPart, if_neg hs]
      unfold partV
      go_enter Try.func8, Try.ntmps8
      obtain ⟨w0, hw0⟩ : ∃ w0, Hid (w.alloc (.cells #[.string a0.core.kind, .bool a0.core.on, .bool a0.core.broken, s0, .int .i64 a0.core.count, t0] 58 : Obj) = w0) := ⟨_, rfl⟩
      have b0 : Below w.heap.size w w0 := by rw [← hw0.out]; exact below_alloc (Below.refl _ _) _
      have YP := hide (show w0.heap[w.heap.size]? = some (.cells #[.string a0.core.kind, .bool a0.core.on, .bool a0.core.broken, s0, .int .i64 a0.core.count, t0] 58 : Obj) by rw [← hw0.out]; exact heap_new rfl)
      go_wp2_with fail
      rw [hw0.out]
      have q0 := RdL.below r0 b0 (Nat.le_refl _)
      have q1 := RdL.below rl0 b0 (Nat.le_refl _)
      refine (szPart_c a0 s0 t0 1048576 _ WF0.out (RdCells.below ⟨q0, Z0.out⟩ (Below.refl _ _)) (RdLayers.below ⟨q1, ZL0.out⟩ (Below.refl _ _)) (by omega) (by omega)).mono ?_; rintro e W1 ⟨rfl, b1⟩
      rw [hsz.out]
      have Y234 := hide (show W1.heap[w.heap.size]? = some (.cells #[.string a0.core.kind, .bool a0.core.on, .bool a0.core.broken, s0, .int .i64 a0.core.count, t0] 58 : Obj) from (b1.block (w.heap.size) (Nat.lt_of_lt_of_le ((Array.getElem?_eq_some_iff.1 YP.out).1) (by simp <;> omega))).trans YP.out)
      have e235 : Below w0.heap.size w0 W1 := below_then (Below.refl _ _) b1
      go_wp2
      go_ret
      exact ⟨rfl, below_then b0 e235⟩
  · obtain ⟨B, hB⟩ : ∃ B, a1.size = B := ⟨_, rfl⟩
    unfold partV
    go_enter Try.func8, Try.ntmps8
    go_wp2
    go_ret
    exact ⟨rfl, below_alloc (Below.refl _ _) _⟩

set_option maxRecDepth 100000 in
theorem lifted (os : Os) (started : os.Started) (H : Type) (enc : TypeId × Value → H) :
    ReturnsInHanded {} Try.checked os 8 .any (Rows.fnExactWrapSpec.pre6 enc Try.prog Try.f8 Rows.fnExactWrapRow.domain false) (Rows.fnExactWrapSpec.post enc Try.prog Try.f8 false true false false) := by
  refine returnsInHanded_of_change (C := Try.checked) own started (by kernel_rfl) Try.func8
    (ChangeSpec.witness6 (enc := enc) (C := Try.checked) false ⟨#[], #[.agg #[.string ByteArray.empty, .bool false, .bool false, .slice none 0 0, .int .i64 0, .slice none 0 0], .string ByteArray.empty], []⟩ 8 (by kernel_rfl) (by kernel_rfl) (by kernel_rfl) (by kernel_rfl)) ?_
  intro W base args ds gs before hval0 hW _ _
  have hval : ∀ (j : Nat) t v, Try.f8.params[j]? = some t → args[j]? = some v → Value.okWide Try.prog W .any base t v := hval0
  have hW' := hW
  obtain ⟨p, q, hA0, hV, rfl, hfz, hnd⟩ := hW
  have hA : DataW.TrodAll enc Try.prog W 0 (fun _ => true) true Try.f8.params.toList args.toList ds p := hA0
  rw [Try.params8] at hA hval
  obtain ⟨v0, vs0, d0, ds0, p0, q0, hargs, rfl, rfl, h0, r0⟩ := trodAll_cons hA
  obtain ⟨v1, vs1, d1, ds1, p1, q1, rfl, rfl, rfl, h1, r1⟩ := trodAll_cons r0
  obtain ⟨rfl, rfl, rfl⟩ := trodAll_nil r1
  obtain rfl : args = #[v0, v1] := by cases args; simp_all
  obtain ⟨rfl, rfl⟩ := trodVars_none hV
  obtain ⟨a0, hv0⟩ := open_part (hval 0 58 v0 rfl rfl) h0
  obtain ⟨a1, rfl, rfl, rfl, w1⟩ := open_string Try.underlying9 (hval 1 9 v1 rfl rfl) h1
  refine (walk W v0 a0 hv0 a1 w1).mono fun e W' ⟨he, hg⟩ => ?_
  subst he
  exact ⟨_, rfl, law_post (tb := 4) (by kernel_rfl) (by kernel_rfl) hW' hg rfl Try.underlying4 rfl rfl rfl rfl⟩

theorem over : Rows.fnExactWrapRow.holds Try.pinned (OpenSpec.ofChange Rows.fnExactWrapSpec) :=
  OpenClaim.holds_of_wide 8 Try.f8 rfl rfl rfl rfl rfl rfl rfl ⟨rfl, rfl, rfl, rfl, rfl⟩ rfl rfl rfl rfl rfl (by kernel_rfl) Try.func8 (by kernel_rfl)
    (of_decide_eq_true (by kernel_rfl)) (by unfold Func.isWrapper; first | (rw [if_pos (by decide +kernel)]; kernel_rfl) | (rw [if_neg (by decide +kernel)]; exact ⟨rfl, rfl⟩))
    (fun os started H enc _ => lifted os started H enc)

/-- The statement. -/
theorem proved : Rows.FnExactWrapSaid :=
  over
#print axioms proved
end Go.Proofs.Ytplcdnahiimenaa.fnExactWrap
