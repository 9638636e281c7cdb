/- FnExactMakePart: for every input the law returns true, and its arguments read afterwards as they read before. No condition besides those of the statement itself. -/
import Derived.Test.YtplcdnahiimenaaLaw
import Derived.Test.YtplcdnahiimenaaMakePart
import Derived.Test.YtplcdnahiimenaaMarkPart
import Derived.Test.YtplcdnahiimenaaStrs
import Derived.Test.YtplcdnahiimenaaOpen
import Derived.ShutString
namespace Go.Proofs.Ytplcdnahiimenaa.fnExactMakePart
open Go.ChangeShapes Go.WideShapes Go.ChangeAt Go.RowKit
set_option maxRecDepth 100000
open Go.ChangeMaps (open_string shut_string)
set_option linter.unusedVariables false

theorem own : ownKnob Try.prog.godebug = none := by kernel_rfl

set_option maxHeartbeats 4000000 in
/-- The walk: the Go text returns true. -/
theorem walk (w : World) (v0 : Value) (a0 : List ByteArray) (hv0 : ArgStr w v0 a0) :
    Calls Try.prog 7 #[v0] w fun e w' => e = .returned (.bool true) ∧ Below w.heap.size w w' := by
  obtain ⟨r0, z0⟩ := hv0
  have Z0 := hide z0
  clear z0
  by_cases hs : (a0.length + Pu.tot a0 : Int) ≤ 1048576
  · have hsz : Hid (Pu.szStr a0 1048576 = 1048576 - (a0.length + Pu.tot a0 : Int)) := by rw [Hid, Pu.szStr, if_pos hs]
    have hln0 : a0.length ≤ 1048576 := by omega
    have hka : ¬ (1 + (a0.length : Int)) < 0 := by omega
    obtain ⟨hq1, hq2⟩ : (Pu.makeP a0).core.cells.length ≤ 2097152 ∧ (Pu.makeP a0).layers.length ≤ 2097152 := Pu.makeP_len hln0
    obtain ⟨w0, rfl⟩ : ∃ w0, w0 = w := ⟨w, rfl⟩
    have b0 : Below w0.heap.size w0 w0 := Below.refl _ _
    have q0 := r0
    go_enter Try.func7, Try.ntmps7
    go_wp2_with fail
    refine (szStringS_c _ _ _ _ q0 (by omega) (by omega) Z0.out).mono ?_; rintro e W1 ⟨rfl, b1⟩
    rw [hsz.out]
    have e1 : Below w0.heap.size w0 W1 := below_then (Below.refl _ _) b1
    go_wp2_with fail
    refine (toStringS_c _ _ _ (RdL.below q0 e1 (Nat.le_refl _)) hln0).mono ?_; rintro e WT ⟨vT, rfl, oT, bT⟩
    have e2 : Below w0.heap.size w0 WT := below_then e1 bT
    have rT : RdStr WT vT a0 := oT.rd (fun _ => rfl)
    go_wp2_with fail
    refine (sMakePart_c _ a0 _ (RdL.below rT (Below.refl _ _) (Nat.le_refl _)) Z0.out hln0).mono ?_; rintro e WS ⟨⟨vS, uS, rfl, oS, pS, nS⟩, bS⟩
    obtain ⟨AS, kS, rfl⟩ := oS.shape
    obtain ⟨BS, lS, rfl⟩ := pS.shape
    unfold partV replyV
    have e3 : Below w0.heap.size w0 WS := below_then e2 bS
    have e4 : Below WT.heap.size WT WS := below_then (Below.refl _ _) bS
    have rS : RdL WS 2 cellEn (.slice AS (Pu.makeP a0).core.cells.length kS) (Pu.makeP a0).core.cells := oS.rd (fun _ => rfl)
    have rlS : RdL WS 2 layerEn (.slice BS (Pu.makeP a0).layers.length lS) (Pu.makeP a0).layers := pS.rd (fun _ => rfl)
    go_wp2_with fail
    refine (toStringS_c _ _ _ (RdL.below q0 (below_alloc (below_alloc e3 _) _) (Nat.le_refl _)) hln0).mono ?_; rintro e WX ⟨vX, rfl, oX, bX⟩
    have Y5 := hide (show WX.heap[WS.heap.size]? = some (.cells #[.string (Pu.makeP a0).core.kind, .bool (Pu.makeP a0).core.on, .bool (Pu.makeP a0).core.broken, .slice AS (Pu.makeP a0).core.cells.length kS, .int .i64 (Pu.makeP a0).core.count, .slice BS (Pu.makeP a0).layers.length lS] 37 : Obj) from (bX.block (WS.heap.size) (by simp <;> omega)).trans (heap_old (by simp <;> omega) (heap_new (by simp))))
    have Y6 := hide (show WX.heap[WS.heap.size + 1]? = some (.cells #[.int .i64 (Pu.makeR a0).code, .int .i64 (Pu.makeR a0).value, .string (Pu.makeR a0).text, .int .i64 (Pu.makeR a0).want, .int .i64 (Pu.makeR a0).had] 39 : Obj) from (bX.block (WS.heap.size + 1) (by simp <;> omega)).trans (heap_new (by simp)))
    have e7 : Below w0.heap.size w0 WX := below_then (below_alloc (below_alloc e3 _) _) bX
    have e8 : Below WT.heap.size WT WX := below_then (below_alloc (below_alloc e4 _) _) bX
    have e9 : Below WS.heap.size WS WX := below_then (below_alloc (below_alloc (Below.refl _ _) _) _) bX
    have rX : RdStr WX vX a0 := oX.rd (fun _ => rfl)
    have z10 : WS.heap.size < WX.heap.size := (Array.getElem?_eq_some_iff.1 Y5.out).1
    obtain ⟨_, _, _, _, _, _, _⟩ := six_cells Y5.out
    have z11 : WS.heap.size + 1 < WX.heap.size := (Array.getElem?_eq_some_iff.1 Y6.out).1
    obtain ⟨_, _, _, _, _, _⟩ := five_cells Y6.out
    go_wp2_with fail
    refine (iMakePart_c _ a0 _ (RdL.below rX (Below.refl _ _) (Nat.le_refl _)) Z0.out hln0).mono ?_; rintro e WG ⟨⟨vG, uG, rfl, oG, pG, nG⟩, bG⟩
    obtain ⟨AG, kG, rfl⟩ := oG.shape
    obtain ⟨BG, lG, rfl⟩ := pG.shape
    unfold partV replyV
    have Y12 := hide (show WG.heap[WS.heap.size]? = some (.cells #[.string (Pu.makeP a0).core.kind, .bool (Pu.makeP a0).core.on, .bool (Pu.makeP a0).core.broken, .slice AS (Pu.makeP a0).core.cells.length kS, .int .i64 (Pu.makeP a0).core.count, .slice BS (Pu.makeP a0).layers.length lS] 37 : Obj) from (bG.block (WS.heap.size) (Nat.lt_of_lt_of_le ((Array.getElem?_eq_some_iff.1 Y5.out).1) (by simp <;> omega))).trans Y5.out)
    have Y13 := hide (show WG.heap[WS.heap.size + 1]? = some (.cells #[.int .i64 (Pu.makeR a0).code, .int .i64 (Pu.makeR a0).value, .string (Pu.makeR a0).text, .int .i64 (Pu.makeR a0).want, .int .i64 (Pu.makeR a0).had] 39 : Obj) from (bG.block (WS.heap.size + 1) (Nat.lt_of_lt_of_le ((Array.getElem?_eq_some_iff.1 Y6.out).1) (by simp <;> omega))).trans Y6.out)
    have e14 : Below w0.heap.size w0 WG := below_then e7 bG
    have e15 : Below WT.heap.size WT WG := below_then e8 bG
    have e16 : Below WS.heap.size WS WG := below_then e9 bG
    have e17 : Below WX.heap.size WX WG := below_then (Below.refl _ _) bG
    have rG : RdL WG 2 cellEn (.slice AG (Pu.makeP a0).core.cells.length kG) (Pu.makeP a0).core.cells := oG.rd (fun _ => rfl)
    have rlG : RdL WG 2 layerEn (.slice BG (Pu.makeP a0).layers.length lG) (Pu.makeP a0).layers := pG.rd (fun _ => rfl)
    have z18 : WS.heap.size < WG.heap.size := (Array.getElem?_eq_some_iff.1 Y12.out).1
    obtain ⟨_, _, _, _, _, _, _⟩ := six_cells Y12.out
    have z19 : WS.heap.size + 1 < WG.heap.size := (Array.getElem?_eq_some_iff.1 Y13.out).1
    obtain ⟨_, _, _, _, _, _⟩ := five_cells Y13.out
    go_wp2_with fail
    refine (eqPart_c (Pu.makeP a0) (Pu.makeP a0) _ _ _ _ _ rfl (RdL.below rG (below_alloc (below_alloc (Below.refl _ _) _) _) (Nat.le_refl _)) (RdL.below rlG (below_alloc (below_alloc (Below.refl _ _) _) _) (Nat.le_refl _)) (RdL.below rS (below_alloc (below_alloc e16 _) _) (Nat.le_refl _)) (RdL.below rlS (below_alloc (below_alloc e16 _) _) (Nat.le_refl _))).mono ?_; rintro e WH ⟨rfl, bWH⟩
    have Y20 := hide (show WH.heap[WS.heap.size]? = some (.cells #[.string (Pu.makeP a0).core.kind, .bool (Pu.makeP a0).core.on, .bool (Pu.makeP a0).core.broken, .slice AS (Pu.makeP a0).core.cells.length kS, .int .i64 (Pu.makeP a0).core.count, .slice BS (Pu.makeP a0).layers.length lS] 37 : Obj) from (bWH.block (WS.heap.size) (Nat.lt_of_lt_of_le ((Array.getElem?_eq_some_iff.1 Y12.out).1) (by simp <;> omega))).trans (heap_old (Nat.lt_of_lt_of_le ((Array.getElem?_eq_some_iff.1 Y12.out).1) (by simp)) (heap_old ((Array.getElem?_eq_some_iff.1 Y12.out).1) Y12.out)))
    have Y21 := hide (show WH.heap[WS.heap.size + 1]? = some (.cells #[.int .i64 (Pu.makeR a0).code, .int .i64 (Pu.makeR a0).value, .string (Pu.makeR a0).text, .int .i64 (Pu.makeR a0).want, .int .i64 (Pu.makeR a0).had] 39 : Obj) from (bWH.block (WS.heap.size + 1) (Nat.lt_of_lt_of_le ((Array.getElem?_eq_some_iff.1 Y13.out).1) (by simp <;> omega))).trans (heap_old (Nat.lt_of_lt_of_le ((Array.getElem?_eq_some_iff.1 Y13.out).1) (by simp)) (heap_old ((Array.getElem?_eq_some_iff.1 Y13.out).1) Y13.out)))
    have Y22 := hide (show WH.heap[WG.heap.size]? = some (.cells #[.string (Pu.makeP a0).core.kind, .bool (Pu.makeP a0).core.on, .bool (Pu.makeP a0).core.broken, .slice AG (Pu.makeP a0).core.cells.length kG, .int .i64 (Pu.makeP a0).core.count, .slice BG (Pu.makeP a0).layers.length lG] 37 : Obj) from (bWH.block (WG.heap.size) (by simp <;> omega)).trans (heap_old (by simp <;> omega) (heap_new (by simp))))
    have Y23 := hide (show WH.heap[WG.heap.size + 1]? = some (.cells #[.int .i64 (Pu.makeR a0).code, .int .i64 (Pu.makeR a0).value, .string (Pu.makeR a0).text, .int .i64 (Pu.makeR a0).want, .int .i64 (Pu.makeR a0).had] 39 : Obj) from (bWH.block (WG.heap.size + 1) (by simp <;> omega)).trans (heap_new (by simp)))
    have e24 : Below w0.heap.size w0 WH := below_then (below_alloc (below_alloc e14 _) _) bWH
    have e25 : Below WT.heap.size WT WH := below_then (below_alloc (below_alloc e15 _) _) bWH
    have e26 : Below WS.heap.size WS WH := below_then (below_alloc (below_alloc e16 _) _) bWH
    have e27 : Below WX.heap.size WX WH := below_then (below_alloc (below_alloc e17 _) _) bWH
    have e28 : Below WG.heap.size WG WH := below_then (below_alloc (below_alloc (Below.refl _ _) _) _) bWH
    have z29 : WS.heap.size < WH.heap.size := (Array.getElem?_eq_some_iff.1 Y20.out).1
    obtain ⟨_, _, _, _, _, _, _⟩ := six_cells Y20.out
    have z30 : WS.heap.size + 1 < WH.heap.size := (Array.getElem?_eq_some_iff.1 Y21.out).1
    obtain ⟨_, _, _, _, _, _⟩ := five_cells Y21.out
    have z31 : WG.heap.size < WH.heap.size := (Array.getElem?_eq_some_iff.1 Y22.out).1
    obtain ⟨_, _, _, _, _, _, _⟩ := six_cells Y22.out
    have z32 : WG.heap.size + 1 < WH.heap.size := (Array.getElem?_eq_some_iff.1 Y23.out).1
    obtain ⟨_, _, _, _, _, _⟩ := five_cells Y23.out
    go_wp2_with fail
    refine (eqReply_c (Pu.makeR a0) _).mono ?_; rintro e WHr ⟨rfl, bWHr⟩
    have Y33 := hide (show WHr.heap[WS.heap.size]? = some (.cells #[.string (Pu.makeP a0).core.kind, .bool (Pu.makeP a0).core.on, .bool (Pu.makeP a0).core.broken, .slice AS (Pu.makeP a0).core.cells.length kS, .int .i64 (Pu.makeP a0).core.count, .slice BS (Pu.makeP a0).layers.length lS] 37 : Obj) from (bWHr.block (WS.heap.size) (Nat.lt_of_lt_of_le ((Array.getElem?_eq_some_iff.1 Y20.out).1) (by simp <;> omega))).trans Y20.out)
    have Y34 := hide (show WHr.heap[WS.heap.size + 1]? = some (.cells #[.int .i64 (Pu.makeR a0).code, .int .i64 (Pu.makeR a0).value, .string (Pu.makeR a0).text, .int .i64 (Pu.makeR a0).want, .int .i64 (Pu.makeR a0).had] 39 : Obj) from (bWHr.block (WS.heap.size + 1) (Nat.lt_of_lt_of_le ((Array.getElem?_eq_some_iff.1 Y21.out).1) (by simp <;> omega))).trans Y21.out)
    have Y35 := hide (show WHr.heap[WG.heap.size]? = some (.cells #[.string (Pu.makeP a0).core.kind, .bool (Pu.makeP a0).core.on, .bool (Pu.makeP a0).core.broken, .slice AG (Pu.makeP a0).core.cells.length kG, .int .i64 (Pu.makeP a0).core.count, .slice BG (Pu.makeP a0).layers.length lG] 37 : Obj) from (bWHr.block (WG.heap.size) (Nat.lt_of_lt_of_le ((Array.getElem?_eq_some_iff.1 Y22.out).1) (by simp <;> omega))).trans Y22.out)
    have Y36 := hide (show WHr.heap[WG.heap.size + 1]? = some (.cells #[.int .i64 (Pu.makeR a0).code, .int .i64 (Pu.makeR a0).value, .string (Pu.makeR a0).text, .int .i64 (Pu.makeR a0).want, .int .i64 (Pu.makeR a0).had] 39 : Obj) from (bWHr.block (WG.heap.size + 1) (Nat.lt_of_lt_of_le ((Array.getElem?_eq_some_iff.1 Y23.out).1) (by simp <;> omega))).trans Y23.out)
    have e37 : Below w0.heap.size w0 WHr := below_then e24 bWHr
    have e38 : Below WT.heap.size WT WHr := below_then e25 bWHr
    have e39 : Below WS.heap.size WS WHr := below_then e26 bWHr
    have e40 : Below WX.heap.size WX WHr := below_then e27 bWHr
    have e41 : Below WG.heap.size WG WHr := below_then e28 bWHr
    have z42 : WS.heap.size < WHr.heap.size := (Array.getElem?_eq_some_iff.1 Y33.out).1
    obtain ⟨_, _, _, _, _, _, _⟩ := six_cells Y33.out
    have z43 : WS.heap.size + 1 < WHr.heap.size := (Array.getElem?_eq_some_iff.1 Y34.out).1
    obtain ⟨_, _, _, _, _, _⟩ := five_cells Y34.out
    have z44 : WG.heap.size < WHr.heap.size := (Array.getElem?_eq_some_iff.1 Y35.out).1
    obtain ⟨_, _, _, _, _, _, _⟩ := six_cells Y35.out
    have z45 : WG.heap.size + 1 < WHr.heap.size := (Array.getElem?_eq_some_iff.1 Y36.out).1
    obtain ⟨_, _, _, _, _, _⟩ := five_cells Y36.out
    go_wp2_with fail
    refine (toStringS_c _ _ _ (RdL.below q0 e37 (Nat.le_refl _)) hln0).mono ?_; rintro e WZ ⟨vZ, rfl, oZ, bZ⟩
    have Y46 := hide (show WZ.heap[WS.heap.size]? = some (.cells #[.string (Pu.makeP a0).core.kind, .bool (Pu.makeP a0).core.on, .bool (Pu.makeP a0).core.broken, .slice AS (Pu.makeP a0).core.cells.length kS, .int .i64 (Pu.makeP a0).core.count, .slice BS (Pu.makeP a0).layers.length lS] 37 : Obj) from (bZ.block (WS.heap.size) (Nat.lt_of_lt_of_le ((Array.getElem?_eq_some_iff.1 Y33.out).1) (by simp <;> omega))).trans Y33.out)
    have Y47 := hide (show WZ.heap[WS.heap.size + 1]? = some (.cells #[.int .i64 (Pu.makeR a0).code, .int .i64 (Pu.makeR a0).value, .string (Pu.makeR a0).text, .int .i64 (Pu.makeR a0).want, .int .i64 (Pu.makeR a0).had] 39 : Obj) from (bZ.block (WS.heap.size + 1) (Nat.lt_of_lt_of_le ((Array.getElem?_eq_some_iff.1 Y34.out).1) (by simp <;> omega))).trans Y34.out)
    have Y48 := hide (show WZ.heap[WG.heap.size]? = some (.cells #[.string (Pu.makeP a0).core.kind, .bool (Pu.makeP a0).core.on, .bool (Pu.makeP a0).core.broken, .slice AG (Pu.makeP a0).core.cells.length kG, .int .i64 (Pu.makeP a0).core.count, .slice BG (Pu.makeP a0).layers.length lG] 37 : Obj) from (bZ.block (WG.heap.size) (Nat.lt_of_lt_of_le ((Array.getElem?_eq_some_iff.1 Y35.out).1) (by simp <;> omega))).trans Y35.out)
    have Y49 := hide (show WZ.heap[WG.heap.size + 1]? = some (.cells #[.int .i64 (Pu.makeR a0).code, .int .i64 (Pu.makeR a0).value, .string (Pu.makeR a0).text, .int .i64 (Pu.makeR a0).want, .int .i64 (Pu.makeR a0).had] 39 : Obj) from (bZ.block (WG.heap.size + 1) (Nat.lt_of_lt_of_le ((Array.getElem?_eq_some_iff.1 Y36.out).1) (by simp <;> omega))).trans Y36.out)
    have e50 : Below w0.heap.size w0 WZ := below_then e37 bZ
    have e51 : Below WT.heap.size WT WZ := below_then e38 bZ
    have e52 : Below WS.heap.size WS WZ := below_then e39 bZ
    have e53 : Below WX.heap.size WX WZ := below_then e40 bZ
    have e54 : Below WG.heap.size WG WZ := below_then e41 bZ
    have z55 : WS.heap.size < WZ.heap.size := (Array.getElem?_eq_some_iff.1 Y46.out).1
    obtain ⟨_, _, _, _, _, _, _⟩ := six_cells Y46.out
    have z56 : WS.heap.size + 1 < WZ.heap.size := (Array.getElem?_eq_some_iff.1 Y47.out).1
    obtain ⟨_, _, _, _, _, _⟩ := five_cells Y47.out
    have z57 : WG.heap.size < WZ.heap.size := (Array.getElem?_eq_some_iff.1 Y48.out).1
    obtain ⟨_, _, _, _, _, _, _⟩ := six_cells Y48.out
    have z58 : WG.heap.size + 1 < WZ.heap.size := (Array.getElem?_eq_some_iff.1 Y49.out).1
    obtain ⟨_, _, _, _, _, _⟩ := five_cells Y49.out
    go_wp2_with fail
    refine (eqStringS_c _ _ _ _ rfl _ (RdL.below rX e53 (Nat.le_refl _)) (oZ.rd (fun _ => rfl))).mono ?_; rintro e WE ⟨rfl, bWE⟩
    have Y59 := hide (show WE.heap[WS.heap.size]? = some (.cells #[.string (Pu.makeP a0).core.kind, .bool (Pu.makeP a0).core.on, .bool (Pu.makeP a0).core.broken, .slice AS (Pu.makeP a0).core.cells.length kS, .int .i64 (Pu.makeP a0).core.count, .slice BS (Pu.makeP a0).layers.length lS] 37 : Obj) from (bWE.block (WS.heap.size) (Nat.lt_of_lt_of_le ((Array.getElem?_eq_some_iff.1 Y46.out).1) (by simp <;> omega))).trans Y46.out)
    have Y60 := hide (show WE.heap[WS.heap.size + 1]? = some (.cells #[.int .i64 (Pu.makeR a0).code, .int .i64 (Pu.makeR a0).value, .string (Pu.makeR a0).text, .int .i64 (Pu.makeR a0).want, .int .i64 (Pu.makeR a0).had] 39 : Obj) from (bWE.block (WS.heap.size + 1) (Nat.lt_of_lt_of_le ((Array.getElem?_eq_some_iff.1 Y47.out).1) (by simp <;> omega))).trans Y47.out)
    have Y61 := hide (show WE.heap[WG.heap.size]? = some (.cells #[.string (Pu.makeP a0).core.kind, .bool (Pu.makeP a0).core.on, .bool (Pu.makeP a0).core.broken, .slice AG (Pu.makeP a0).core.cells.length kG, .int .i64 (Pu.makeP a0).core.count, .slice BG (Pu.makeP a0).layers.length lG] 37 : Obj) from (bWE.block (WG.heap.size) (Nat.lt_of_lt_of_le ((Array.getElem?_eq_some_iff.1 Y48.out).1) (by simp <;> omega))).trans Y48.out)
    have Y62 := hide (show WE.heap[WG.heap.size + 1]? = some (.cells #[.int .i64 (Pu.makeR a0).code, .int .i64 (Pu.makeR a0).value, .string (Pu.makeR a0).text, .int .i64 (Pu.makeR a0).want, .int .i64 (Pu.makeR a0).had] 39 : Obj) from (bWE.block (WG.heap.size + 1) (Nat.lt_of_lt_of_le ((Array.getElem?_eq_some_iff.1 Y49.out).1) (by simp <;> omega))).trans Y49.out)
    have e63 : Below w0.heap.size w0 WE := below_then e50 bWE
    have e64 : Below WT.heap.size WT WE := below_then e51 bWE
    have e65 : Below WS.heap.size WS WE := below_then e52 bWE
    have e66 : Below WX.heap.size WX WE := below_then e53 bWE
    have e67 : Below WG.heap.size WG WE := below_then e54 bWE
    have z68 : WS.heap.size < WE.heap.size := (Array.getElem?_eq_some_iff.1 Y59.out).1
    obtain ⟨_, _, _, _, _, _, _⟩ := six_cells Y59.out
    have z69 : WS.heap.size + 1 < WE.heap.size := (Array.getElem?_eq_some_iff.1 Y60.out).1
    obtain ⟨_, _, _, _, _, _⟩ := five_cells Y60.out
    have z70 : WG.heap.size < WE.heap.size := (Array.getElem?_eq_some_iff.1 Y61.out).1
    obtain ⟨_, _, _, _, _, _, _⟩ := six_cells Y61.out
    have z71 : WG.heap.size + 1 < WE.heap.size := (Array.getElem?_eq_some_iff.1 Y62.out).1
    obtain ⟨_, _, _, _, _, _⟩ := five_cells Y62.out
    have gE := OwnL.below oG e67 (Nat.le_refl _)
    have hE := OwnL.below pG e67 (Nat.le_refl _)
    have xE := OwnL.below oX e66 (Nat.le_refl _)
    go_wp2_with fail
    refine (markStringS_c _ _ 1 _ _ xE (by omega) (by omega) (by omega)).mono ?_; rintro e WM ⟨rfl, oM, gM⟩
    have wM := grown_within xE gM (.inr fun g h => (oX.lt h).2)
    have gXs : WS.heap.size ≤ WX.heap.size := by have := bX.size; (try simp at this); omega
    have gWs : WX.heap.size ≤ WG.heap.size := by have := bG.size; (try simp at this); omega
    have wM1 : Within (WS.heap.size + 2) WX.heap.size WE WM := wM.mono (by simp) (Nat.le_refl _)
    have bM : Below WS.heap.size WE WM := wM1.below (by omega) (Below.size e65)
    have gTS : W1.heap.size ≤ WS.heap.size := by have h1 := bT.size; have h2 := bS.size; omega
    have g01 : w0.heap.size ≤ W1.heap.size := b1.size
    have Y72 := hide (show WM.heap[WS.heap.size]? = some (.cells #[.string (Pu.makeP a0).core.kind, .bool (Pu.makeP a0).core.on, .bool (Pu.makeP a0).core.broken, .slice AS (Pu.makeP a0).core.cells.length kS, .int .i64 (Pu.makeP a0).core.count, .slice BS (Pu.makeP a0).layers.length lS] 37 : Obj) from (wM1.block (WS.heap.size) (Array.getElem?_eq_some_iff.1 Y59.out).1 (by first | exact .inl (by omega) | exact .inr (by omega))).trans Y59.out)
    have Y73 := hide (show WM.heap[WS.heap.size + 1]? = some (.cells #[.int .i64 (Pu.makeR a0).code, .int .i64 (Pu.makeR a0).value, .string (Pu.makeR a0).text, .int .i64 (Pu.makeR a0).want, .int .i64 (Pu.makeR a0).had] 39 : Obj) from (wM1.block (WS.heap.size + 1) (Array.getElem?_eq_some_iff.1 Y60.out).1 (by first | exact .inl (by omega) | exact .inr (by omega))).trans Y60.out)
    have Y74 := hide (show WM.heap[WG.heap.size]? = some (.cells #[.string (Pu.makeP a0).core.kind, .bool (Pu.makeP a0).core.on, .bool (Pu.makeP a0).core.broken, .slice AG (Pu.makeP a0).core.cells.length kG, .int .i64 (Pu.makeP a0).core.count, .slice BG (Pu.makeP a0).layers.length lG] 37 : Obj) from (wM1.block (WG.heap.size) (Array.getElem?_eq_some_iff.1 Y61.out).1 (by first | exact .inl (by omega) | exact .inr (by omega))).trans Y61.out)
    have Y75 := hide (show WM.heap[WG.heap.size + 1]? = some (.cells #[.int .i64 (Pu.makeR a0).code, .int .i64 (Pu.makeR a0).value, .string (Pu.makeR a0).text, .int .i64 (Pu.makeR a0).want, .int .i64 (Pu.makeR a0).had] 39 : Obj) from (wM1.block (WG.heap.size + 1) (Array.getElem?_eq_some_iff.1 Y62.out).1 (by first | exact .inl (by omega) | exact .inr (by omega))).trans Y62.out)
    have e76 : Below w0.heap.size w0 WM := Below.trans e63 (bM.mono (by first | exact Nat.le_refl _ | omega))
    have e77 : Below WS.heap.size WS WM := Below.trans e65 (bM.mono (by first | exact Nat.le_refl _ | omega))
    have gM1 := OwnL.within gE wM1 (fun g h => .inr (by have h1 := (oG.lt h).1; (try simp at h1); omega))
    have hM1 := OwnL.within hE wM1 (fun g h => .inr (by have h1 := (pG.lt h).1; (try simp at h1); omega))
    have rM1 : RdL WM 2 cellEn (.slice AG (Pu.makeP a0).core.cells.length kG) (Pu.makeP a0).core.cells := gM1.rd (fun _ => rfl)
    have rlM1 : RdL WM 2 layerEn (.slice BG (Pu.makeP a0).layers.length lG) (Pu.makeP a0).layers := hM1.rd (fun _ => rfl)
    have z78 : WS.heap.size < WM.heap.size := (Array.getElem?_eq_some_iff.1 Y72.out).1
    obtain ⟨_, _, _, _, _, _, _⟩ := six_cells Y72.out
    have z79 : WS.heap.size + 1 < WM.heap.size := (Array.getElem?_eq_some_iff.1 Y73.out).1
    obtain ⟨_, _, _, _, _, _⟩ := five_cells Y73.out
    have z80 : WG.heap.size < WM.heap.size := (Array.getElem?_eq_some_iff.1 Y74.out).1
    obtain ⟨_, _, _, _, _, _, _⟩ := six_cells Y74.out
    have z81 : WG.heap.size + 1 < WM.heap.size := (Array.getElem?_eq_some_iff.1 Y75.out).1
    obtain ⟨_, _, _, _, _, _⟩ := five_cells Y75.out
    go_wp2_with fail
    refine (eqPart_c (Pu.makeP a0) (Pu.makeP a0) _ _ _ _ _ rfl rM1 rlM1 (RdL.below rS e77 (Nat.le_refl _)) (RdL.below rlS e77 (Nat.le_refl _))).mono ?_; rintro e WN ⟨rfl, bWN⟩
    have Y82 := hide (show WN.heap[WS.heap.size]? = some (.cells #[.string (Pu.makeP a0).core.kind, .bool (Pu.makeP a0).core.on, .bool (Pu.makeP a0).core.broken, .slice AS (Pu.makeP a0).core.cells.length kS, .int .i64 (Pu.makeP a0).core.count, .slice BS (Pu.makeP a0).layers.length lS] 37 : Obj) from (bWN.block (WS.heap.size) (Nat.lt_of_lt_of_le ((Array.getElem?_eq_some_iff.1 Y72.out).1) (by simp <;> omega))).trans Y72.out)
    have Y83 := hide (show WN.heap[WS.heap.size + 1]? = some (.cells #[.int .i64 (Pu.makeR a0).code, .int .i64 (Pu.makeR a0).value, .string (Pu.makeR a0).text, .int .i64 (Pu.makeR a0).want, .int .i64 (Pu.makeR a0).had] 39 : Obj) from (bWN.block (WS.heap.size + 1) (Nat.lt_of_lt_of_le ((Array.getElem?_eq_some_iff.1 Y73.out).1) (by simp <;> omega))).trans Y73.out)
    have Y84 := hide (show WN.heap[WG.heap.size]? = some (.cells #[.string (Pu.makeP a0).core.kind, .bool (Pu.makeP a0).core.on, .bool (Pu.makeP a0).core.broken, .slice AG (Pu.makeP a0).core.cells.length kG, .int .i64 (Pu.makeP a0).core.count, .slice BG (Pu.makeP a0).layers.length lG] 37 : Obj) from (bWN.block (WG.heap.size) (Nat.lt_of_lt_of_le ((Array.getElem?_eq_some_iff.1 Y74.out).1) (by simp <;> omega))).trans Y74.out)
    have Y85 := hide (show WN.heap[WG.heap.size + 1]? = some (.cells #[.int .i64 (Pu.makeR a0).code, .int .i64 (Pu.makeR a0).value, .string (Pu.makeR a0).text, .int .i64 (Pu.makeR a0).want, .int .i64 (Pu.makeR a0).had] 39 : Obj) from (bWN.block (WG.heap.size + 1) (Nat.lt_of_lt_of_le ((Array.getElem?_eq_some_iff.1 Y75.out).1) (by simp <;> omega))).trans Y75.out)
    have e86 : Below w0.heap.size w0 WN := below_then e76 bWN
    have e87 : Below WS.heap.size WS WN := below_then e77 bWN
    have z88 : WS.heap.size < WN.heap.size := (Array.getElem?_eq_some_iff.1 Y82.out).1
    obtain ⟨_, _, _, _, _, _, _⟩ := six_cells Y82.out
    have z89 : WS.heap.size + 1 < WN.heap.size := (Array.getElem?_eq_some_iff.1 Y83.out).1
    obtain ⟨_, _, _, _, _, _⟩ := five_cells Y83.out
    have z90 : WG.heap.size < WN.heap.size := (Array.getElem?_eq_some_iff.1 Y84.out).1
    obtain ⟨_, _, _, _, _, _, _⟩ := six_cells Y84.out
    have z91 : WG.heap.size + 1 < WN.heap.size := (Array.getElem?_eq_some_iff.1 Y85.out).1
    obtain ⟨_, _, _, _, _, _⟩ := five_cells Y85.out
    go_wp2_with fail
    refine (eqReply_c (Pu.makeR a0) _).mono ?_; rintro e WNr ⟨rfl, bWNr⟩
    have Y92 := hide (show WNr.heap[WS.heap.size]? = some (.cells #[.string (Pu.makeP a0).core.kind, .bool (Pu.makeP a0).core.on, .bool (Pu.makeP a0).core.broken, .slice AS (Pu.makeP a0).core.cells.length kS, .int .i64 (Pu.makeP a0).core.count, .slice BS (Pu.makeP a0).layers.length lS] 37 : Obj) from (bWNr.block (WS.heap.size) (Nat.lt_of_lt_of_le ((Array.getElem?_eq_some_iff.1 Y82.out).1) (by simp <;> omega))).trans Y82.out)
    have Y93 := hide (show WNr.heap[WS.heap.size + 1]? = some (.cells #[.int .i64 (Pu.makeR a0).code, .int .i64 (Pu.makeR a0).value, .string (Pu.makeR a0).text, .int .i64 (Pu.makeR a0).want, .int .i64 (Pu.makeR a0).had] 39 : Obj) from (bWNr.block (WS.heap.size + 1) (Nat.lt_of_lt_of_le ((Array.getElem?_eq_some_iff.1 Y83.out).1) (by simp <;> omega))).trans Y83.out)
    have Y94 := hide (show WNr.heap[WG.heap.size]? = some (.cells #[.string (Pu.makeP a0).core.kind, .bool (Pu.makeP a0).core.on, .bool (Pu.makeP a0).core.broken, .slice AG (Pu.makeP a0).core.cells.length kG, .int .i64 (Pu.makeP a0).core.count, .slice BG (Pu.makeP a0).layers.length lG] 37 : Obj) from (bWNr.block (WG.heap.size) (Nat.lt_of_lt_of_le ((Array.getElem?_eq_some_iff.1 Y84.out).1) (by simp <;> omega))).trans Y84.out)
    have Y95 := hide (show WNr.heap[WG.heap.size + 1]? = some (.cells #[.int .i64 (Pu.makeR a0).code, .int .i64 (Pu.makeR a0).value, .string (Pu.makeR a0).text, .int .i64 (Pu.makeR a0).want, .int .i64 (Pu.makeR a0).had] 39 : Obj) from (bWNr.block (WG.heap.size + 1) (Nat.lt_of_lt_of_le ((Array.getElem?_eq_some_iff.1 Y85.out).1) (by simp <;> omega))).trans Y85.out)
    have e96 : Below w0.heap.size w0 WNr := below_then e86 bWNr
    have e97 : Below WS.heap.size WS WNr := below_then e87 bWNr
    have bMN : Below WM.heap.size WM WNr := below_then bWN bWNr
    have gN := OwnL.below gM1 bMN (Nat.le_refl _)
    have hN := OwnL.below hM1 bMN (Nat.le_refl _)
    have z98 : WS.heap.size < WNr.heap.size := (Array.getElem?_eq_some_iff.1 Y92.out).1
    obtain ⟨_, _, _, _, _, _, _⟩ := six_cells Y92.out
    have z99 : WS.heap.size + 1 < WNr.heap.size := (Array.getElem?_eq_some_iff.1 Y93.out).1
    obtain ⟨_, _, _, _, _, _⟩ := five_cells Y93.out
    have z100 : WG.heap.size < WNr.heap.size := (Array.getElem?_eq_some_iff.1 Y94.out).1
    obtain ⟨_, _, _, _, _, _, _⟩ := six_cells Y94.out
    have z101 : WG.heap.size + 1 < WNr.heap.size := (Array.getElem?_eq_some_iff.1 Y95.out).1
    obtain ⟨_, _, _, _, _, _⟩ := five_cells Y95.out
    go_wp2_with fail
    have hCN : ∀ g, (Value.slice AG (Pu.makeP a0).core.cells.length kG).ownBlock = some g ∨ (Value.slice BG (Pu.makeP a0).layers.length lG).ownBlock = some g → g < WG.heap.size := fun g h => by rcases h with h | h; exact (oG.lt h).2; exact (pG.lt h).2
    have gWG : WG.heap.size ≤ WNr.heap.size := by have h1 := wM.size; have h2 := bMN.size; have h3 := (Below.size e67); omega
    refine (markPart_c (Pu.makeP a0) _ _ _ _ 1 _ WG.heap.size _ gN hN nG hCN gWG (by omega) (by omega) (by omega) (by omega)).mono ?_; rintro e WQ ⟨rfl, oQ, pQ, wQ⟩
    have wQ1 : Within (WX.heap.size + 0) WG.heap.size WNr WQ := wQ.mono (by simp) (Nat.le_refl _)
    have bQ : Below WX.heap.size WNr WQ := wQ1.below (by omega) (by omega)
    have Y102 := hide (show WQ.heap[WS.heap.size]? = some (.cells #[.string (Pu.makeP a0).core.kind, .bool (Pu.makeP a0).core.on, .bool (Pu.makeP a0).core.broken, .slice AS (Pu.makeP a0).core.cells.length kS, .int .i64 (Pu.makeP a0).core.count, .slice BS (Pu.makeP a0).layers.length lS] 37 : Obj) from (wQ1.block (WS.heap.size) (Array.getElem?_eq_some_iff.1 Y92.out).1 (by first | exact .inl (by omega) | exact .inr (by omega))).trans Y92.out)
    have Y103 := hide (show WQ.heap[WS.heap.size + 1]? = some (.cells #[.int .i64 (Pu.makeR a0).code, .int .i64 (Pu.makeR a0).value, .string (Pu.makeR a0).text, .int .i64 (Pu.makeR a0).want, .int .i64 (Pu.makeR a0).had] 39 : Obj) from (wQ1.block (WS.heap.size + 1) (Array.getElem?_eq_some_iff.1 Y93.out).1 (by first | exact .inl (by omega) | exact .inr (by omega))).trans Y93.out)
    have Y104 := hide (show WQ.heap[WG.heap.size]? = some (.cells #[.string (Pu.makeP a0).core.kind, .bool (Pu.makeP a0).core.on, .bool (Pu.makeP a0).core.broken, .slice AG (Pu.makeP a0).core.cells.length kG, .int .i64 (Pu.makeP a0).core.count, .slice BG (Pu.makeP a0).layers.length lG] 37 : Obj) from (wQ1.block (WG.heap.size) (Array.getElem?_eq_some_iff.1 Y94.out).1 (by first | exact .inl (by omega) | exact .inr (by omega))).trans Y94.out)
    have Y105 := hide (show WQ.heap[WG.heap.size + 1]? = some (.cells #[.int .i64 (Pu.makeR a0).code, .int .i64 (Pu.makeR a0).value, .string (Pu.makeR a0).text, .int .i64 (Pu.makeR a0).want, .int .i64 (Pu.makeR a0).had] 39 : Obj) from (wQ1.block (WG.heap.size + 1) (Array.getElem?_eq_some_iff.1 Y95.out).1 (by first | exact .inl (by omega) | exact .inr (by omega))).trans Y95.out)
    have e106 : Below w0.heap.size w0 WQ := Below.trans e96 (bQ.mono (by first | exact Nat.le_refl _ | omega))
    have e107 : Below WS.heap.size WS WQ := Below.trans e97 (bQ.mono (by first | exact Nat.le_refl _ | omega))
    have rQ : RdL WQ 2 cellEn (.slice AG (Pu.makeP a0).core.cells.length kG) (Pu.gen (Pu.gC 1) (Pu.makeP a0).core.cells.length) := oQ.rd (fun _ => rfl)
    have rlQ : RdL WQ 2 layerEn (.slice BG (Pu.makeP a0).layers.length lG) (Pu.gen (Pu.gL (1 + 2 * (Pu.makeP a0).core.cells.length)) (Pu.makeP a0).layers.length) := pQ.rd (fun _ => rfl)
    have hk0 : ¬ (1 + 2 * ((Pu.makeP a0).core.cells.length : Int) + 2 * ((Pu.makeP a0).layers.length : Int)) < 0 := by omega
    have z108 : WS.heap.size < WQ.heap.size := (Array.getElem?_eq_some_iff.1 Y102.out).1
    obtain ⟨_, _, _, _, _, _, _⟩ := six_cells Y102.out
    have z109 : WS.heap.size + 1 < WQ.heap.size := (Array.getElem?_eq_some_iff.1 Y103.out).1
    obtain ⟨_, _, _, _, _, _⟩ := five_cells Y103.out
    have z110 : WG.heap.size < WQ.heap.size := (Array.getElem?_eq_some_iff.1 Y104.out).1
    obtain ⟨_, _, _, _, _, _, _⟩ := six_cells Y104.out
    have z111 : WG.heap.size + 1 < WQ.heap.size := (Array.getElem?_eq_some_iff.1 Y105.out).1
    obtain ⟨_, _, _, _, _, _⟩ := five_cells Y105.out
    go_wp2_with fail
    refine (heldPart_c (Pu.makeP a0) _ _ _ _ 1 _ (RdL.below rQ (Below.refl _ _) (Nat.le_refl _)) (RdL.below rlQ (Below.refl _ _) (Nat.le_refl _)) (by omega) (by omega) (by omega) (by omega)).mono ?_; rintro e WU ⟨rfl, bWU⟩
    have Y112 := hide (show WU.heap[WS.heap.size]? = some (.cells #[.string (Pu.makeP a0).core.kind, .bool (Pu.makeP a0).core.on, .bool (Pu.makeP a0).core.broken, .slice AS (Pu.makeP a0).core.cells.length kS, .int .i64 (Pu.makeP a0).core.count, .slice BS (Pu.makeP a0).layers.length lS] 37 : Obj) from (bWU.block (WS.heap.size) (Nat.lt_of_lt_of_le ((Array.getElem?_eq_some_iff.1 Y102.out).1) (by simp <;> omega))).trans Y102.out)
    have Y113 := hide (show WU.heap[WS.heap.size + 1]? = some (.cells #[.int .i64 (Pu.makeR a0).code, .int .i64 (Pu.makeR a0).value, .string (Pu.makeR a0).text, .int .i64 (Pu.makeR a0).want, .int .i64 (Pu.makeR a0).had] 39 : Obj) from (bWU.block (WS.heap.size + 1) (Nat.lt_of_lt_of_le ((Array.getElem?_eq_some_iff.1 Y103.out).1) (by simp <;> omega))).trans Y103.out)
    have Y114 := hide (show WU.heap[WG.heap.size]? = some (.cells #[.string (Pu.makeP a0).core.kind, .bool (Pu.makeP a0).core.on, .bool (Pu.makeP a0).core.broken, .slice AG (Pu.makeP a0).core.cells.length kG, .int .i64 (Pu.makeP a0).core.count, .slice BG (Pu.makeP a0).layers.length lG] 37 : Obj) from (bWU.block (WG.heap.size) (Nat.lt_of_lt_of_le ((Array.getElem?_eq_some_iff.1 Y104.out).1) (by simp <;> omega))).trans Y104.out)
    have Y115 := hide (show WU.heap[WG.heap.size + 1]? = some (.cells #[.int .i64 (Pu.makeR a0).code, .int .i64 (Pu.makeR a0).value, .string (Pu.makeR a0).text, .int .i64 (Pu.makeR a0).want, .int .i64 (Pu.makeR a0).had] 39 : Obj) from (bWU.block (WG.heap.size + 1) (Nat.lt_of_lt_of_le ((Array.getElem?_eq_some_iff.1 Y105.out).1) (by simp <;> omega))).trans Y105.out)
    have e116 : Below w0.heap.size w0 WU := below_then e106 bWU
    have e117 : Below WS.heap.size WS WU := below_then e107 bWU
    have e118 : Below WQ.heap.size WQ WU := below_then (Below.refl _ _) bWU
    have z119 : WS.heap.size < WU.heap.size := (Array.getElem?_eq_some_iff.1 Y112.out).1
    obtain ⟨_, _, _, _, _, _, _⟩ := six_cells Y112.out
    have z120 : WS.heap.size + 1 < WU.heap.size := (Array.getElem?_eq_some_iff.1 Y113.out).1
    obtain ⟨_, _, _, _, _, _⟩ := five_cells Y113.out
    have z121 : WG.heap.size < WU.heap.size := (Array.getElem?_eq_some_iff.1 Y114.out).1
    obtain ⟨_, _, _, _, _, _, _⟩ := six_cells Y114.out
    have z122 : WG.heap.size + 1 < WU.heap.size := (Array.getElem?_eq_some_iff.1 Y115.out).1
    obtain ⟨_, _, _, _, _, _⟩ := five_cells Y115.out
    go_wp2_with fail
    refine (toStringS_c _ _ _ (RdL.below q0 e116 (Nat.le_refl _)) hln0).mono ?_; rintro e WV ⟨vV, rfl, oV, bV⟩
    have Y123 := hide (show WV.heap[WS.heap.size]? = some (.cells #[.string (Pu.makeP a0).core.kind, .bool (Pu.makeP a0).core.on, .bool (Pu.makeP a0).core.broken, .slice AS (Pu.makeP a0).core.cells.length kS, .int .i64 (Pu.makeP a0).core.count, .slice BS (Pu.makeP a0).layers.length lS] 37 : Obj) from (bV.block (WS.heap.size) (Nat.lt_of_lt_of_le ((Array.getElem?_eq_some_iff.1 Y112.out).1) (by simp <;> omega))).trans Y112.out)
    have Y124 := hide (show WV.heap[WS.heap.size + 1]? = some (.cells #[.int .i64 (Pu.makeR a0).code, .int .i64 (Pu.makeR a0).value, .string (Pu.makeR a0).text, .int .i64 (Pu.makeR a0).want, .int .i64 (Pu.makeR a0).had] 39 : Obj) from (bV.block (WS.heap.size + 1) (Nat.lt_of_lt_of_le ((Array.getElem?_eq_some_iff.1 Y113.out).1) (by simp <;> omega))).trans Y113.out)
    have Y125 := hide (show WV.heap[WG.heap.size]? = some (.cells #[.string (Pu.makeP a0).core.kind, .bool (Pu.makeP a0).core.on, .bool (Pu.makeP a0).core.broken, .slice AG (Pu.makeP a0).core.cells.length kG, .int .i64 (Pu.makeP a0).core.count, .slice BG (Pu.makeP a0).layers.length lG] 37 : Obj) from (bV.block (WG.heap.size) (Nat.lt_of_lt_of_le ((Array.getElem?_eq_some_iff.1 Y114.out).1) (by simp <;> omega))).trans Y114.out)
    have Y126 := hide (show WV.heap[WG.heap.size + 1]? = some (.cells #[.int .i64 (Pu.makeR a0).code, .int .i64 (Pu.makeR a0).value, .string (Pu.makeR a0).text, .int .i64 (Pu.makeR a0).want, .int .i64 (Pu.makeR a0).had] 39 : Obj) from (bV.block (WG.heap.size + 1) (Nat.lt_of_lt_of_le ((Array.getElem?_eq_some_iff.1 Y115.out).1) (by simp <;> omega))).trans Y115.out)
    have e127 : Below w0.heap.size w0 WV := below_then e116 bV
    have e128 : Below WS.heap.size WS WV := below_then e117 bV
    have e129 : Below WQ.heap.size WQ WV := below_then e118 bV
    have rV : RdStr WV vV a0 := oV.rd (fun _ => rfl)
    go_wp2_with fail
    refine (iMakePart_c _ a0 _ (RdL.below rV (Below.refl _ _) (Nat.le_refl _)) Z0.out hln0).mono ?_; rintro e WL ⟨⟨vL, uL, rfl, oL, pL, nL⟩, bL⟩
    obtain ⟨AL, kL, rfl⟩ := oL.shape
    obtain ⟨BL, lL, rfl⟩ := pL.shape
    unfold partV replyV
    have Y130 := hide (show WL.heap[WS.heap.size]? = some (.cells #[.string (Pu.makeP a0).core.kind, .bool (Pu.makeP a0).core.on, .bool (Pu.makeP a0).core.broken, .slice AS (Pu.makeP a0).core.cells.length kS, .int .i64 (Pu.makeP a0).core.count, .slice BS (Pu.makeP a0).layers.length lS] 37 : Obj) from (bL.block (WS.heap.size) (Nat.lt_of_lt_of_le ((Array.getElem?_eq_some_iff.1 Y123.out).1) (by simp <;> omega))).trans Y123.out)
    have Y131 := hide (show WL.heap[WS.heap.size + 1]? = some (.cells #[.int .i64 (Pu.makeR a0).code, .int .i64 (Pu.makeR a0).value, .string (Pu.makeR a0).text, .int .i64 (Pu.makeR a0).want, .int .i64 (Pu.makeR a0).had] 39 : Obj) from (bL.block (WS.heap.size + 1) (Nat.lt_of_lt_of_le ((Array.getElem?_eq_some_iff.1 Y124.out).1) (by simp <;> omega))).trans Y124.out)
    have Y132 := hide (show WL.heap[WG.heap.size]? = some (.cells #[.string (Pu.makeP a0).core.kind, .bool (Pu.makeP a0).core.on, .bool (Pu.makeP a0).core.broken, .slice AG (Pu.makeP a0).core.cells.length kG, .int .i64 (Pu.makeP a0).core.count, .slice BG (Pu.makeP a0).layers.length lG] 37 : Obj) from (bL.block (WG.heap.size) (Nat.lt_of_lt_of_le ((Array.getElem?_eq_some_iff.1 Y125.out).1) (by simp <;> omega))).trans Y125.out)
    have Y133 := hide (show WL.heap[WG.heap.size + 1]? = some (.cells #[.int .i64 (Pu.makeR a0).code, .int .i64 (Pu.makeR a0).value, .string (Pu.makeR a0).text, .int .i64 (Pu.makeR a0).want, .int .i64 (Pu.makeR a0).had] 39 : Obj) from (bL.block (WG.heap.size + 1) (Nat.lt_of_lt_of_le ((Array.getElem?_eq_some_iff.1 Y126.out).1) (by simp <;> omega))).trans Y126.out)
    have e134 : Below w0.heap.size w0 WL := below_then e127 bL
    have e135 : Below WS.heap.size WS WL := below_then e128 bL
    have e136 : Below WQ.heap.size WQ WL := below_then e129 bL
    have e137 : Below WV.heap.size WV WL := below_then (Below.refl _ _) bL
    have rL : RdL WL 2 cellEn (.slice AL (Pu.makeP a0).core.cells.length kL) (Pu.makeP a0).core.cells := oL.rd (fun _ => rfl)
    have rlL : RdL WL 2 layerEn (.slice BL (Pu.makeP a0).layers.length lL) (Pu.makeP a0).layers := pL.rd (fun _ => rfl)
    have z138 : WS.heap.size < WL.heap.size := (Array.getElem?_eq_some_iff.1 Y130.out).1
    obtain ⟨_, _, _, _, _, _, _⟩ := six_cells Y130.out
    have z139 : WS.heap.size + 1 < WL.heap.size := (Array.getElem?_eq_some_iff.1 Y131.out).1
    obtain ⟨_, _, _, _, _, _⟩ := five_cells Y131.out
    have z140 : WG.heap.size < WL.heap.size := (Array.getElem?_eq_some_iff.1 Y132.out).1
    obtain ⟨_, _, _, _, _, _, _⟩ := six_cells Y132.out
    have z141 : WG.heap.size + 1 < WL.heap.size := (Array.getElem?_eq_some_iff.1 Y133.out).1
    obtain ⟨_, _, _, _, _, _⟩ := five_cells Y133.out
    go_wp2_with fail
    refine (eqPart_c (Pu.makeP a0) (Pu.makeP a0) _ _ _ _ _ rfl (RdL.below rL (below_alloc (below_alloc (Below.refl _ _) _) _) (Nat.le_refl _)) (RdL.below rlL (below_alloc (below_alloc (Below.refl _ _) _) _) (Nat.le_refl _)) (RdL.below rS (below_alloc (below_alloc e135 _) _) (Nat.le_refl _)) (RdL.below rlS (below_alloc (below_alloc e135 _) _) (Nat.le_refl _))).mono ?_; rintro e WO ⟨rfl, bWO⟩
    have Y142 := hide (show WO.heap[WS.heap.size]? = some (.cells #[.string (Pu.makeP a0).core.kind, .bool (Pu.makeP a0).core.on, .bool (Pu.makeP a0).core.broken, .slice AS (Pu.makeP a0).core.cells.length kS, .int .i64 (Pu.makeP a0).core.count, .slice BS (Pu.makeP a0).layers.length lS] 37 : Obj) from (bWO.block (WS.heap.size) (Nat.lt_of_lt_of_le ((Array.getElem?_eq_some_iff.1 Y130.out).1) (by simp <;> omega))).trans (heap_old (Nat.lt_of_lt_of_le ((Array.getElem?_eq_some_iff.1 Y130.out).1) (by simp)) (heap_old ((Array.getElem?_eq_some_iff.1 Y130.out).1) Y130.out)))
    have Y143 := hide (show WO.heap[WS.heap.size + 1]? = some (.cells #[.int .i64 (Pu.makeR a0).code, .int .i64 (Pu.makeR a0).value, .string (Pu.makeR a0).text, .int .i64 (Pu.makeR a0).want, .int .i64 (Pu.makeR a0).had] 39 : Obj) from (bWO.block (WS.heap.size + 1) (Nat.lt_of_lt_of_le ((Array.getElem?_eq_some_iff.1 Y131.out).1) (by simp <;> omega))).trans (heap_old (Nat.lt_of_lt_of_le ((Array.getElem?_eq_some_iff.1 Y131.out).1) (by simp)) (heap_old ((Array.getElem?_eq_some_iff.1 Y131.out).1) Y131.out)))
    have Y144 := hide (show WO.heap[WG.heap.size]? = some (.cells #[.string (Pu.makeP a0).core.kind, .bool (Pu.makeP a0).core.on, .bool (Pu.makeP a0).core.broken, .slice AG (Pu.makeP a0).core.cells.length kG, .int .i64 (Pu.makeP a0).core.count, .slice BG (Pu.makeP a0).layers.length lG] 37 : Obj) from (bWO.block (WG.heap.size) (Nat.lt_of_lt_of_le ((Array.getElem?_eq_some_iff.1 Y132.out).1) (by simp <;> omega))).trans (heap_old (Nat.lt_of_lt_of_le ((Array.getElem?_eq_some_iff.1 Y132.out).1) (by simp)) (heap_old ((Array.getElem?_eq_some_iff.1 Y132.out).1) Y132.out)))
    have Y145 := hide (show WO.heap[WG.heap.size + 1]? = some (.cells #[.int .i64 (Pu.makeR a0).code, .int .i64 (Pu.makeR a0).value, .string (Pu.makeR a0).text, .int .i64 (Pu.makeR a0).want, .int .i64 (Pu.makeR a0).had] 39 : Obj) from (bWO.block (WG.heap.size + 1) (Nat.lt_of_lt_of_le ((Array.getElem?_eq_some_iff.1 Y133.out).1) (by simp <;> omega))).trans (heap_old (Nat.lt_of_lt_of_le ((Array.getElem?_eq_some_iff.1 Y133.out).1) (by simp)) (heap_old ((Array.getElem?_eq_some_iff.1 Y133.out).1) Y133.out)))
    have Y146 := hide (show WO.heap[WL.heap.size]? = some (.cells #[.string (Pu.makeP a0).core.kind, .bool (Pu.makeP a0).core.on, .bool (Pu.makeP a0).core.broken, .slice AL (Pu.makeP a0).core.cells.length kL, .int .i64 (Pu.makeP a0).core.count, .slice BL (Pu.makeP a0).layers.length lL] 37 : Obj) from (bWO.block (WL.heap.size) (by simp <;> omega)).trans (heap_old (by simp <;> omega) (heap_new (by simp))))
    have Y147 := hide (show WO.heap[WL.heap.size + 1]? = some (.cells #[.int .i64 (Pu.makeR a0).code, .int .i64 (Pu.makeR a0).value, .string (Pu.makeR a0).text, .int .i64 (Pu.makeR a0).want, .int .i64 (Pu.makeR a0).had] 39 : Obj) from (bWO.block (WL.heap.size + 1) (by simp <;> omega)).trans (heap_new (by simp)))
    have e148 : Below w0.heap.size w0 WO := below_then (below_alloc (below_alloc e134 _) _) bWO
    have e149 : Below WS.heap.size WS WO := below_then (below_alloc (below_alloc e135 _) _) bWO
    have e150 : Below WQ.heap.size WQ WO := below_then (below_alloc (below_alloc e136 _) _) bWO
    have e151 : Below WV.heap.size WV WO := below_then (below_alloc (below_alloc e137 _) _) bWO
    have e152 : Below WL.heap.size WL WO := below_then (below_alloc (below_alloc (Below.refl _ _) _) _) bWO
    have z153 : WS.heap.size < WO.heap.size := (Array.getElem?_eq_some_iff.1 Y142.out).1
    obtain ⟨_, _, _, _, _, _, _⟩ := six_cells Y142.out
    have z154 : WS.heap.size + 1 < WO.heap.size := (Array.getElem?_eq_some_iff.1 Y143.out).1
    obtain ⟨_, _, _, _, _, _⟩ := five_cells Y143.out
    have z155 : WG.heap.size < WO.heap.size := (Array.getElem?_eq_some_iff.1 Y144.out).1
    obtain ⟨_, _, _, _, _, _, _⟩ := six_cells Y144.out
    have z156 : WG.heap.size + 1 < WO.heap.size := (Array.getElem?_eq_some_iff.1 Y145.out).1
    obtain ⟨_, _, _, _, _, _⟩ := five_cells Y145.out
    have z157 : WL.heap.size < WO.heap.size := (Array.getElem?_eq_some_iff.1 Y146.out).1
    obtain ⟨_, _, _, _, _, _, _⟩ := six_cells Y146.out
    have z158 : WL.heap.size + 1 < WO.heap.size := (Array.getElem?_eq_some_iff.1 Y147.out).1
    obtain ⟨_, _, _, _, _, _⟩ := five_cells Y147.out
    go_wp2_with fail
    refine (eqReply_c (Pu.makeR a0) _).mono ?_; rintro e WOr ⟨rfl, bWOr⟩
    have Y159 := hide (show WOr.heap[WS.heap.size]? = some (.cells #[.string (Pu.makeP a0).core.kind, .bool (Pu.makeP a0).core.on, .bool (Pu.makeP a0).core.broken, .slice AS (Pu.makeP a0).core.cells.length kS, .int .i64 (Pu.makeP a0).core.count, .slice BS (Pu.makeP a0).layers.length lS] 37 : Obj) from (bWOr.block (WS.heap.size) (Nat.lt_of_lt_of_le ((Array.getElem?_eq_some_iff.1 Y142.out).1) (by simp <;> omega))).trans Y142.out)
    have Y160 := hide (show WOr.heap[WS.heap.size + 1]? = some (.cells #[.int .i64 (Pu.makeR a0).code, .int .i64 (Pu.makeR a0).value, .string (Pu.makeR a0).text, .int .i64 (Pu.makeR a0).want, .int .i64 (Pu.makeR a0).had] 39 : Obj) from (bWOr.block (WS.heap.size + 1) (Nat.lt_of_lt_of_le ((Array.getElem?_eq_some_iff.1 Y143.out).1) (by simp <;> omega))).trans Y143.out)
    have Y161 := hide (show WOr.heap[WG.heap.size]? = some (.cells #[.string (Pu.makeP a0).core.kind, .bool (Pu.makeP a0).core.on, .bool (Pu.makeP a0).core.broken, .slice AG (Pu.makeP a0).core.cells.length kG, .int .i64 (Pu.makeP a0).core.count, .slice BG (Pu.makeP a0).layers.length lG] 37 : Obj) from (bWOr.block (WG.heap.size) (Nat.lt_of_lt_of_le ((Array.getElem?_eq_some_iff.1 Y144.out).1) (by simp <;> omega))).trans Y144.out)
    have Y162 := hide (show WOr.heap[WG.heap.size + 1]? = some (.cells #[.int .i64 (Pu.makeR a0).code, .int .i64 (Pu.makeR a0).value, .string (Pu.makeR a0).text, .int .i64 (Pu.makeR a0).want, .int .i64 (Pu.makeR a0).had] 39 : Obj) from (bWOr.block (WG.heap.size + 1) (Nat.lt_of_lt_of_le ((Array.getElem?_eq_some_iff.1 Y145.out).1) (by simp <;> omega))).trans Y145.out)
    have Y163 := hide (show WOr.heap[WL.heap.size]? = some (.cells #[.string (Pu.makeP a0).core.kind, .bool (Pu.makeP a0).core.on, .bool (Pu.makeP a0).core.broken, .slice AL (Pu.makeP a0).core.cells.length kL, .int .i64 (Pu.makeP a0).core.count, .slice BL (Pu.makeP a0).layers.length lL] 37 : Obj) from (bWOr.block (WL.heap.size) (Nat.lt_of_lt_of_le ((Array.getElem?_eq_some_iff.1 Y146.out).1) (by simp <;> omega))).trans Y146.out)
    have Y164 := hide (show WOr.heap[WL.heap.size + 1]? = some (.cells #[.int .i64 (Pu.makeR a0).code, .int .i64 (Pu.makeR a0).value, .string (Pu.makeR a0).text, .int .i64 (Pu.makeR a0).want, .int .i64 (Pu.makeR a0).had] 39 : Obj) from (bWOr.block (WL.heap.size + 1) (Nat.lt_of_lt_of_le ((Array.getElem?_eq_some_iff.1 Y147.out).1) (by simp <;> omega))).trans Y147.out)
    have e165 : Below w0.heap.size w0 WOr := below_then e148 bWOr
    have e166 : Below WS.heap.size WS WOr := below_then e149 bWOr
    have e167 : Below WQ.heap.size WQ WOr := below_then e150 bWOr
    have e168 : Below WV.heap.size WV WOr := below_then e151 bWOr
    have e169 : Below WL.heap.size WL WOr := below_then e152 bWOr
    have z170 : WS.heap.size < WOr.heap.size := (Array.getElem?_eq_some_iff.1 Y159.out).1
    obtain ⟨_, _, _, _, _, _, _⟩ := six_cells Y159.out
    have z171 : WS.heap.size + 1 < WOr.heap.size := (Array.getElem?_eq_some_iff.1 Y160.out).1
    obtain ⟨_, _, _, _, _, _⟩ := five_cells Y160.out
    have z172 : WG.heap.size < WOr.heap.size := (Array.getElem?_eq_some_iff.1 Y161.out).1
    obtain ⟨_, _, _, _, _, _, _⟩ := six_cells Y161.out
    have z173 : WG.heap.size + 1 < WOr.heap.size := (Array.getElem?_eq_some_iff.1 Y162.out).1
    obtain ⟨_, _, _, _, _, _⟩ := five_cells Y162.out
    have z174 : WL.heap.size < WOr.heap.size := (Array.getElem?_eq_some_iff.1 Y163.out).1
    obtain ⟨_, _, _, _, _, _, _⟩ := six_cells Y163.out
    have z175 : WL.heap.size + 1 < WOr.heap.size := (Array.getElem?_eq_some_iff.1 Y164.out).1
    obtain ⟨_, _, _, _, _, _⟩ := five_cells Y164.out
    go_wp2_with fail
    refine (heldPart_c (Pu.makeP a0) _ _ _ _ 1 _ (RdL.below rQ e167 (Nat.le_refl _)) (RdL.below rlQ e167 (Nat.le_refl _)) (by omega) (by omega) (by omega) (by omega)).mono ?_; rintro e WJ ⟨rfl, bWJ⟩
    have Y176 := hide (show WJ.heap[WS.heap.size]? = some (.cells #[.string (Pu.makeP a0).core.kind, .bool (Pu.makeP a0).core.on, .bool (Pu.makeP a0).core.broken, .slice AS (Pu.makeP a0).core.cells.length kS, .int .i64 (Pu.makeP a0).core.count, .slice BS (Pu.makeP a0).layers.length lS] 37 : Obj) from (bWJ.block (WS.heap.size) (Nat.lt_of_lt_of_le ((Array.getElem?_eq_some_iff.1 Y159.out).1) (by simp <;> omega))).trans Y159.out)
    have Y177 := hide (show WJ.heap[WS.heap.size + 1]? = some (.cells #[.int .i64 (Pu.makeR a0).code, .int .i64 (Pu.makeR a0).value, .string (Pu.makeR a0).text, .int .i64 (Pu.makeR a0).want, .int .i64 (Pu.makeR a0).had] 39 : Obj) from (bWJ.block (WS.heap.size + 1) (Nat.lt_of_lt_of_le ((Array.getElem?_eq_some_iff.1 Y160.out).1) (by simp <;> omega))).trans Y160.out)
    have Y178 := hide (show WJ.heap[WG.heap.size]? = some (.cells #[.string (Pu.makeP a0).core.kind, .bool (Pu.makeP a0).core.on, .bool (Pu.makeP a0).core.broken, .slice AG (Pu.makeP a0).core.cells.length kG, .int .i64 (Pu.makeP a0).core.count, .slice BG (Pu.makeP a0).layers.length lG] 37 : Obj) from (bWJ.block (WG.heap.size) (Nat.lt_of_lt_of_le ((Array.getElem?_eq_some_iff.1 Y161.out).1) (by simp <;> omega))).trans Y161.out)
    have Y179 := hide (show WJ.heap[WG.heap.size + 1]? = some (.cells #[.int .i64 (Pu.makeR a0).code, .int .i64 (Pu.makeR a0).value, .string (Pu.makeR a0).text, .int .i64 (Pu.makeR a0).want, .int .i64 (Pu.makeR a0).had] 39 : Obj) from (bWJ.block (WG.heap.size + 1) (Nat.lt_of_lt_of_le ((Array.getElem?_eq_some_iff.1 Y162.out).1) (by simp <;> omega))).trans Y162.out)
    have Y180 := hide (show WJ.heap[WL.heap.size]? = some (.cells #[.string (Pu.makeP a0).core.kind, .bool (Pu.makeP a0).core.on, .bool (Pu.makeP a0).core.broken, .slice AL (Pu.makeP a0).core.cells.length kL, .int .i64 (Pu.makeP a0).core.count, .slice BL (Pu.makeP a0).layers.length lL] 37 : Obj) from (bWJ.block (WL.heap.size) (Nat.lt_of_lt_of_le ((Array.getElem?_eq_some_iff.1 Y163.out).1) (by simp <;> omega))).trans Y163.out)
    have Y181 := hide (show WJ.heap[WL.heap.size + 1]? = some (.cells #[.int .i64 (Pu.makeR a0).code, .int .i64 (Pu.makeR a0).value, .string (Pu.makeR a0).text, .int .i64 (Pu.makeR a0).want, .int .i64 (Pu.makeR a0).had] 39 : Obj) from (bWJ.block (WL.heap.size + 1) (Nat.lt_of_lt_of_le ((Array.getElem?_eq_some_iff.1 Y164.out).1) (by simp <;> omega))).trans Y164.out)
    have e182 : Below w0.heap.size w0 WJ := below_then e165 bWJ
    have e183 : Below WS.heap.size WS WJ := below_then e166 bWJ
    have e184 : Below WQ.heap.size WQ WJ := below_then e167 bWJ
    have e185 : Below WV.heap.size WV WJ := below_then e168 bWJ
    have e186 : Below WL.heap.size WL WJ := below_then e169 bWJ
    go_wp2
    go_ret
    exact ⟨rfl, below_then b0 e182⟩
  · have hsz : Hid (Pu.szStr a0 1048576 = -1) := by rw [Hid, Pu.szStr, if_neg hs]
    obtain ⟨w0, rfl⟩ : ∃ w0, w0 = w := ⟨w, rfl⟩
    have b0 : Below w0.heap.size w0 w0 := Below.refl _ _
    have q0 := r0
    go_enter Try.func7, Try.ntmps7
    go_wp2_with fail
    refine (szStringS_c _ _ _ _ q0 (by omega) (by omega) Z0.out).mono ?_; rintro e W1 ⟨rfl, b1⟩
    rw [hsz.out]
    have e187 : Below w0.heap.size w0 W1 := below_then (Below.refl _ _) b1
    go_wp2
    go_ret
    exact ⟨rfl, below_then b0 e187⟩

set_option maxRecDepth 100000 in
theorem lifted (os : Os) (started : os.Started) (H : Type) (enc : TypeId × Value → H) :
    ReturnsInHanded {} Try.checked os 7 .any (Rows.fnExactMakePartSpec.pre6 enc Try.prog Try.f7 Rows.fnExactMakePartRow.domain false) (Rows.fnExactMakePartSpec.post enc Try.prog Try.f7 false true false false) := by
  refine returnsInHanded_of_change (C := Try.checked) own started (by kernel_rfl) Try.func7
    (ChangeSpec.witness6 (enc := enc) (C := Try.checked) false ⟨#[], #[.slice none 0 0], []⟩ 8 (by kernel_rfl) (by kernel_rfl) (by kernel_rfl) (by kernel_rfl)) ?_
  intro W base args ds gs before hval0 hW _ _
  have hval : ∀ (j : Nat) t v, Try.f7.params[j]? = some t → args[j]? = some v → Value.okWide Try.prog W .any base t v := hval0
  have hW' := hW
  obtain ⟨p, q, hA0, hV, rfl, hfz, hnd⟩ := hW
  have hA : DataW.TrodAll enc Try.prog W 0 (fun _ => true) true Try.f7.params.toList args.toList ds p := hA0
  rw [Try.params7] at hA hval
  obtain ⟨v0, vs0, d0, ds0, p0, q0, hargs, rfl, rfl, h0, r0⟩ := trodAll_cons hA
  obtain ⟨rfl, rfl, rfl⟩ := trodAll_nil r0
  obtain rfl : args = #[v0] := by cases args; simp_all
  obtain ⟨rfl, rfl⟩ := trodVars_none hV
  obtain ⟨a0, hv0⟩ := open_strs (hval 0 22 v0 rfl rfl) h0
  refine (walk W v0 a0 hv0).mono fun e W' ⟨he, hg⟩ => ?_
  subst he
  exact ⟨_, rfl, law_post (tb := 4) (by kernel_rfl) (by kernel_rfl) hW' hg rfl Try.underlying4 rfl rfl rfl rfl⟩

theorem over : Rows.fnExactMakePartRow.holds Try.pinned (OpenSpec.ofChange Rows.fnExactMakePartSpec) :=
  OpenClaim.holds_of_wide 7 Try.f7 rfl rfl rfl rfl rfl rfl rfl ⟨rfl, rfl, rfl, rfl, rfl⟩ rfl rfl rfl rfl rfl (by kernel_rfl) Try.func7 (by kernel_rfl)
    (of_decide_eq_true (by kernel_rfl)) (by unfold Func.isWrapper; first | (rw [if_pos (by decide +kernel)]; kernel_rfl) | (rw [if_neg (by decide +kernel)]; exact ⟨rfl, rfl⟩))
    (fun os started H enc _ => lifted os started H enc)

/-- The statement. -/
theorem proved : Rows.FnExactMakePartSaid :=
  over
#print axioms proved
end Go.Proofs.Ytplcdnahiimenaa.fnExactMakePart
