/- Contracts: what the reference's calls do to a core (the program's CallCore). Written by wip/tools/icallgen.py. -/
import Derived.Test.YtllmcnmongaahaaGreatDoorIDoes
import Derived.Test.YtllmcnmongaahaaGreatDoorCore2
import Derived.Test.YtllmcnmongaahaaGreatDoorFace
import Derived.Test.YtllmcnmongaahaaGreatDoorM0
namespace Go.Proofs.YtllmcnmongaahaaGreatDoor
open Go.ChangeShapes Go.WideShapes Go.ChangeAt Go.RowKit
set_option maxRecDepth 100000
set_option linter.unusedVariables false
set_option maxHeartbeats 4000000 in
theorem iCallCore_bad1 (p : Pu.CoreD) (x : Pu.CallD) (s : Value) (w : World) (R : Pu.CoreD × Pu.ReplyD) (hw : CoreD.wf p) (hxw : CallD.wf x) (hs : RdCells w s p.cells) (hl : p.cells.length ≤ 16777216) (ht : x.text.size ≤ 1048576) (hp : Pu.coreB p = false) (HN : Hid (R = (p, Pu.rp 7 0))) :
    Calls Tryz.prog 16 #[coreV p s, callV x] w fun e w' => ∃ s', e = .returned (.tuple #[coreV R.1 s', replyV R.2]) ∧ OwnL w' w.heap.size 63 2 cellEn s' R.1.cells ∧ Below w.heap.size w w' := by
  obtain ⟨A, c, rfl, _, _, _⟩ := RdL.open_ hs.1
  have HS := hide hs
  have HW := hide hw
  have HXW := hide hxw
  clear hs hw hxw
  unfold coreV callV
  go_enter Tryz.func16, Tryz.ntmps16
  obtain ⟨w0, hw0⟩ : ∃ w0, Hid ((((w.alloc (.cells #[.string p.kind, .bool p.on, .bool p.broken, .slice A p.cells.length c, .int .i64 p.count] 31 : Obj)).alloc (.cells #[.string x.method, .string x.key, .int .i64 x.value, .string x.text] 37 : Obj)).alloc (.cells #[.string ⟨#[]⟩, .bool false, .bool false, .slice none 0 0, .int .i64 0] 31 : Obj)).alloc (.cells #[.int .i64 0, .int .i64 0, .string ⟨#[]⟩, .int .i64 0, .int .i64 0] 33 : Obj) = w0) := ⟨_, rfl⟩
  have b0 : Below w.heap.size w w0 := by rw [← hw0.out]; exact below_alloc (below_alloc (below_alloc (below_alloc (Below.refl _ _) _) _) _) _
  have Y0 := hide (show w0.heap[w.heap.size]? = some (.cells #[.string p.kind, .bool p.on, .bool p.broken, .slice A p.cells.length c, .int .i64 p.count] 31 : Obj) by rw [← hw0.out]; exact heap_old (by simp <;> omega) (heap_old (by simp <;> omega) (heap_old (by simp <;> omega) (heap_new (by simp)))))
  have Y1 := hide (show w0.heap[w.heap.size + 1]? = some (.cells #[.string x.method, .string x.key, .int .i64 x.value, .string x.text] 37 : Obj) by rw [← hw0.out]; exact heap_old (by simp <;> omega) (heap_old (by simp <;> omega) (heap_new (by simp))))
  have Y2 := hide (show w0.heap[w.heap.size + 1 + 1]? = some (.cells #[.string ⟨#[]⟩, .bool false, .bool false, .slice none 0 0, .int .i64 0] 31 : Obj) by rw [← hw0.out]; exact heap_old (by simp <;> omega) (heap_new (by simp)))
  have Y3 := hide (show w0.heap[w.heap.size + 1 + 1 + 1]? = some (.cells #[.int .i64 0, .int .i64 0, .string ⟨#[]⟩, .int .i64 0, .int .i64 0] 33 : Obj) by rw [← hw0.out]; exact heap_new (by simp))
  have hs0 : Hid (w0.heap.size = w.heap.size + 1 + 1 + 1 + 1) := by rw [← hw0.out, Hid]; simp
  go_wp2_with fail
  rw [hw0.out]
  refine (iCopyCore_c p _ _ (RdL.below HS.out.1 b0 (Nat.le_refl _)) hl).mono ?_; rintro e w1 ⟨s1, rfl, o1, b1⟩
  obtain ⟨A1, c1, rfl⟩ := o1.shape
  unfold coreV
  have B1 := below_then b0 b1
  have X0 := hide (row_on b1 Y0.out)
  have X1 := hide (row_on b1 Y1.out)
  have X2 := hide (row_on b1 Y2.out)
  have X3 := hide (row_on b1 Y3.out)
  have HO1 := hide o1
  have hz0 := hs0.out
  have hz1 : w.heap.size + 1 + 1 + 1 < w1.heap.size := (Array.getElem?_eq_some_iff.1 X3.out).1
  clear b1 o1
  obtain ⟨_, _, _, _, _, _⟩ := five_cells X0.out
  have E0 := hide (show (w1.alloc (.cells #[.string p.kind, .bool p.on, .bool p.broken, .slice A1 p.cells.length c1, .int .i64 p.count] 31 : Obj)).heap[w.heap.size]? = some (.cells #[.string p.kind, .bool p.on, .bool p.broken, .slice A p.cells.length c, .int .i64 p.count] 31 : Obj) from heap_old (by omega) X0.out)
  have E1 := hide (show (w1.alloc (.cells #[.string p.kind, .bool p.on, .bool p.broken, .slice A1 p.cells.length c1, .int .i64 p.count] 31 : Obj)).heap[w.heap.size + 1]? = some (.cells #[.string x.method, .string x.key, .int .i64 x.value, .string x.text] 37 : Obj) from heap_old (by omega) X1.out)
  obtain ⟨_, _, _, _, _, _⟩ := five_cells E0.out
  obtain ⟨_, _, _, _, _⟩ := four_cells E1.out
  clear E0 E1
  go_wp2_with fail
  obtain ⟨wa, hwa⟩ : ∃ wa, Hid (w1.alloc (.cells #[.string p.kind, .bool p.on, .bool p.broken, .slice A1 p.cells.length c1, .int .i64 p.count] 31 : Obj) = wa) := ⟨_, rfl⟩
  have ba : Below w1.heap.size w1 wa := by rw [← hwa.out]; exact below_alloc (Below.refl _ _) _
  have Ba := below_then B1 ba
  rw [hwa.out]
  have U0 := hide (row_on ba X0.out)
  have U1 := hide (row_on ba X1.out)
  have U2 := hide (row_on ba X2.out)
  have U3 := hide (row_on ba X3.out)
  have U4 := hide (show wa.heap[w1.heap.size]? = some (.cells #[.string p.kind, .bool p.on, .bool p.broken, .slice A1 p.cells.length c1, .int .i64 p.count] 31 : Obj) by rw [← hwa.out]; exact heap_new rfl)
  have HOa := hide (OwnL.below HO1.out ba (Nat.le_refl _))
  clear ba
  refine (iIsCore_c p _ _ HW.out (RdCells.below HS.out Ba)).mono ?_; rintro e w2 ⟨rfl, b2⟩
  have B2 := below_then Ba b2
  have V0 := hide (row_on b2 U0.out)
  have V1 := hide (row_on b2 U1.out)
  have V2 := hide (row_on b2 U2.out)
  have V3 := hide (row_on b2 U3.out)
  have V4 := hide (row_on b2 U4.out)
  have HO2 := hide (OwnL.below HOa.out b2 (Nat.le_refl _))
  clear b2
  rw [hp]
  obtain ⟨_, _, _, _, _, _⟩ := five_cells V0.out
  obtain ⟨_, _, _, _, _⟩ := four_cells V1.out
  obtain ⟨d0, d1, d2, d3, d4, df⟩ := five_cells V2.out
  obtain ⟨e0, e1, e2, e3, e4, ef⟩ := five_cells V3.out
  obtain ⟨_, _, _, _, _, _⟩ := five_cells V4.out
  have HFX := hide (fun g hg => And.intro (own_ne HO2.out V2.out (by decide) g hg) (own_ne HO2.out V3.out (by decide) g hg))
  go_wp2
  refine bodyPost_ret (v := .tuple #[.agg #[.string p.kind, .bool p.on, .bool p.broken, .slice A1 p.cells.length c1, .int .i64 p.count], .agg #[.int .i64 7, .int .i64 0, .string ⟨#[]⟩, .int .i64 0, .int .i64 0]]) (by simp [results, Tryz.results16, go_sem, d0, d1, d2, d3, d4, e0, e1, e2, e3, e4]) rfl ?_
  rw [HN.out]
  refine ⟨_, rfl, ?_, ?_⟩
  · iterate 10 refine OwnL.set' ?_ (by intro g hg; have := HFX.out g hg; simp <;> omega) _
    exact OwnL.mono HO2.out (by omega)
  · iterate 10 refine below_set ?_ (by simp <;> omega) _
    exact B2
set_option maxHeartbeats 4000000 in
theorem iCallCore_bad2 (p : Pu.CoreD) (x : Pu.CallD) (s : Value) (w : World) (R : Pu.CoreD × Pu.ReplyD) (hw : CoreD.wf p) (hxw : CallD.wf x) (hs : RdCells w s p.cells) (hl : p.cells.length ≤ 16777216) (ht : x.text.size ≤ 1048576) (hp : Pu.coreB p = true) (hx : Pu.callB x = false) (HN : Hid (R = (p, Pu.rp 7 0))) :
    Calls Tryz.prog 16 #[coreV p s, callV x] w fun e w' => ∃ s', e = .returned (.tuple #[coreV R.1 s', replyV R.2]) ∧ OwnL w' w.heap.size 63 2 cellEn s' R.1.cells ∧ Below w.heap.size w w' := by
  obtain ⟨A, c, rfl, _, _, _⟩ := RdL.open_ hs.1
  have HS := hide hs
  have HW := hide hw
  have HXW := hide hxw
  clear hs hw hxw
  unfold coreV callV
  go_enter Tryz.func16, Tryz.ntmps16
  obtain ⟨w0, hw0⟩ : ∃ w0, Hid ((((w.alloc (.cells #[.string p.kind, .bool p.on, .bool p.broken, .slice A p.cells.length c, .int .i64 p.count] 31 : Obj)).alloc (.cells #[.string x.method, .string x.key, .int .i64 x.value, .string x.text] 37 : Obj)).alloc (.cells #[.string ⟨#[]⟩, .bool false, .bool false, .slice none 0 0, .int .i64 0] 31 : Obj)).alloc (.cells #[.int .i64 0, .int .i64 0, .string ⟨#[]⟩, .int .i64 0, .int .i64 0] 33 : Obj) = w0) := ⟨_, rfl⟩
  have b0 : Below w.heap.size w w0 := by rw [← hw0.out]; exact below_alloc (below_alloc (below_alloc (below_alloc (Below.refl _ _) _) _) _) _
  have Y0 := hide (show w0.heap[w.heap.size]? = some (.cells #[.string p.kind, .bool p.on, .bool p.broken, .slice A p.cells.length c, .int .i64 p.count] 31 : Obj) by rw [← hw0.out]; exact heap_old (by simp <;> omega) (heap_old (by simp <;> omega) (heap_old (by simp <;> omega) (heap_new (by simp)))))
  have Y1 := hide (show w0.heap[w.heap.size + 1]? = some (.cells #[.string x.method, .string x.key, .int .i64 x.value, .string x.text] 37 : Obj) by rw [← hw0.out]; exact heap_old (by simp <;> omega) (heap_old (by simp <;> omega) (heap_new (by simp))))
  have Y2 := hide (show w0.heap[w.heap.size + 1 + 1]? = some (.cells #[.string ⟨#[]⟩, .bool false, .bool false, .slice none 0 0, .int .i64 0] 31 : Obj) by rw [← hw0.out]; exact heap_old (by simp <;> omega) (heap_new (by simp)))
  have Y3 := hide (show w0.heap[w.heap.size + 1 + 1 + 1]? = some (.cells #[.int .i64 0, .int .i64 0, .string ⟨#[]⟩, .int .i64 0, .int .i64 0] 33 : Obj) by rw [← hw0.out]; exact heap_new (by simp))
  have hs0 : Hid (w0.heap.size = w.heap.size + 1 + 1 + 1 + 1) := by rw [← hw0.out, Hid]; simp
  go_wp2_with fail
  rw [hw0.out]
  refine (iCopyCore_c p _ _ (RdL.below HS.out.1 b0 (Nat.le_refl _)) hl).mono ?_; rintro e w1 ⟨s1, rfl, o1, b1⟩
  obtain ⟨A1, c1, rfl⟩ := o1.shape
  unfold coreV
  have B1 := below_then b0 b1
  have X0 := hide (row_on b1 Y0.out)
  have X1 := hide (row_on b1 Y1.out)
  have X2 := hide (row_on b1 Y2.out)
  have X3 := hide (row_on b1 Y3.out)
  have HO1 := hide o1
  have hz0 := hs0.out
  have hz1 : w.heap.size + 1 + 1 + 1 < w1.heap.size := (Array.getElem?_eq_some_iff.1 X3.out).1
  clear b1 o1
  obtain ⟨_, _, _, _, _, _⟩ := five_cells X0.out
  have E0 := hide (show (w1.alloc (.cells #[.string p.kind, .bool p.on, .bool p.broken, .slice A1 p.cells.length c1, .int .i64 p.count] 31 : Obj)).heap[w.heap.size]? = some (.cells #[.string p.kind, .bool p.on, .bool p.broken, .slice A p.cells.length c, .int .i64 p.count] 31 : Obj) from heap_old (by omega) X0.out)
  have E1 := hide (show (w1.alloc (.cells #[.string p.kind, .bool p.on, .bool p.broken, .slice A1 p.cells.length c1, .int .i64 p.count] 31 : Obj)).heap[w.heap.size + 1]? = some (.cells #[.string x.method, .string x.key, .int .i64 x.value, .string x.text] 37 : Obj) from heap_old (by omega) X1.out)
  obtain ⟨_, _, _, _, _, _⟩ := five_cells E0.out
  obtain ⟨_, _, _, _, _⟩ := four_cells E1.out
  clear E0 E1
  go_wp2_with fail
  obtain ⟨wa, hwa⟩ : ∃ wa, Hid (w1.alloc (.cells #[.string p.kind, .bool p.on, .bool p.broken, .slice A1 p.cells.length c1, .int .i64 p.count] 31 : Obj) = wa) := ⟨_, rfl⟩
  have ba : Below w1.heap.size w1 wa := by rw [← hwa.out]; exact below_alloc (Below.refl _ _) _
  have Ba := below_then B1 ba
  rw [hwa.out]
  have U0 := hide (row_on ba X0.out)
  have U1 := hide (row_on ba X1.out)
  have U2 := hide (row_on ba X2.out)
  have U3 := hide (row_on ba X3.out)
  have U4 := hide (show wa.heap[w1.heap.size]? = some (.cells #[.string p.kind, .bool p.on, .bool p.broken, .slice A1 p.cells.length c1, .int .i64 p.count] 31 : Obj) by rw [← hwa.out]; exact heap_new rfl)
  have HOa := hide (OwnL.below HO1.out ba (Nat.le_refl _))
  clear ba
  refine (iIsCore_c p _ _ HW.out (RdCells.below HS.out Ba)).mono ?_; rintro e w2 ⟨rfl, b2⟩
  have B2 := below_then Ba b2
  have V0 := hide (row_on b2 U0.out)
  have V1 := hide (row_on b2 U1.out)
  have V2 := hide (row_on b2 U2.out)
  have V3 := hide (row_on b2 U3.out)
  have V4 := hide (row_on b2 U4.out)
  have HO2 := hide (OwnL.below HOa.out b2 (Nat.le_refl _))
  clear b2
  rw [hp]
  obtain ⟨_, _, _, _, _, _⟩ := five_cells V0.out
  obtain ⟨_, _, _, _, _⟩ := four_cells V1.out
  obtain ⟨d0, d1, d2, d3, d4, df⟩ := five_cells V2.out
  obtain ⟨e0, e1, e2, e3, e4, ef⟩ := five_cells V3.out
  obtain ⟨_, _, _, _, _, _⟩ := five_cells V4.out
  go_wp2_with fail
  refine (iIsCall_c x _ HXW.out).mono ?_; rintro e w3 ⟨rfl, bw3⟩
  have Bw3 := below_then B2 bw3
  have Z0 := hide (row_on bw3 V0.out)
  have Z1 := hide (row_on bw3 V1.out)
  have Z2 := hide (row_on bw3 V2.out)
  have Z3 := hide (row_on bw3 V3.out)
  have Z4 := hide (row_on bw3 V4.out)
  have HOw3 := hide (OwnL.below HO2.out bw3 (Nat.le_refl _))
  clear bw3
  rw [hx]
  obtain ⟨_, _, _, _, _, _⟩ := five_cells Z0.out
  obtain ⟨_, _, _, _, _⟩ := four_cells Z1.out
  obtain ⟨d0, d1, d2, d3, d4, df⟩ := five_cells Z2.out
  obtain ⟨e0, e1, e2, e3, e4, ef⟩ := five_cells Z3.out
  obtain ⟨_, _, _, _, _, _⟩ := five_cells Z4.out
  have HFX := hide (fun g hg => And.intro (own_ne HOw3.out Z2.out (by decide) g hg) (own_ne HOw3.out Z3.out (by decide) g hg))
  go_wp2
  refine bodyPost_ret (v := .tuple #[.agg #[.string p.kind, .bool p.on, .bool p.broken, .slice A1 p.cells.length c1, .int .i64 p.count], .agg #[.int .i64 7, .int .i64 0, .string ⟨#[]⟩, .int .i64 0, .int .i64 0]]) (by simp [results, Tryz.results16, go_sem, d0, d1, d2, d3, d4, e0, e1, e2, e3, e4]) rfl ?_
  rw [HN.out]
  refine ⟨_, rfl, ?_, ?_⟩
  · iterate 10 refine OwnL.set' ?_ (by intro g hg; have := HFX.out g hg; simp <;> omega) _
    exact OwnL.mono HOw3.out (by omega)
  · iterate 10 refine below_set ?_ (by simp <;> omega) _
    exact Bw3
set_option maxHeartbeats 4000000 in
theorem iCallCore_no (p : Pu.CoreD) (x : Pu.CallD) (s : Value) (w : World) (R : Pu.CoreD × Pu.ReplyD) (hw : CoreD.wf p) (hxw : CallD.wf x) (hs : RdCells w s p.cells) (hl : p.cells.length ≤ 16777216) (ht : x.text.size ≤ 1048576) (hp : Pu.coreB p = true) (hx : Pu.callB x = true) (ho : Pu.offersB (Pu.kindF p.kind.toList) (Pu.wantF x.method.toList) = false) (HN : Hid (R = (p, (⟨1, 0, ⟨#[]⟩, Pu.wantF x.method.toList, Pu.kindF p.kind.toList⟩ : Pu.ReplyD)))) :
    Calls Tryz.prog 16 #[coreV p s, callV x] w fun e w' => ∃ s', e = .returned (.tuple #[coreV R.1 s', replyV R.2]) ∧ OwnL w' w.heap.size 63 2 cellEn s' R.1.cells ∧ Below w.heap.size w w' := by
  obtain ⟨A, c, rfl, _, _, _⟩ := RdL.open_ hs.1
  have HS := hide hs
  have HW := hide hw
  have HXW := hide hxw
  clear hs hw hxw
  unfold coreV callV
  go_enter Tryz.func16, Tryz.ntmps16
  obtain ⟨w0, hw0⟩ : ∃ w0, Hid ((((w.alloc (.cells #[.string p.kind, .bool p.on, .bool p.broken, .slice A p.cells.length c, .int .i64 p.count] 31 : Obj)).alloc (.cells #[.string x.method, .string x.key, .int .i64 x.value, .string x.text] 37 : Obj)).alloc (.cells #[.string ⟨#[]⟩, .bool false, .bool false, .slice none 0 0, .int .i64 0] 31 : Obj)).alloc (.cells #[.int .i64 0, .int .i64 0, .string ⟨#[]⟩, .int .i64 0, .int .i64 0] 33 : Obj) = w0) := ⟨_, rfl⟩
  have b0 : Below w.heap.size w w0 := by rw [← hw0.out]; exact below_alloc (below_alloc (below_alloc (below_alloc (Below.refl _ _) _) _) _) _
  have Y0 := hide (show w0.heap[w.heap.size]? = some (.cells #[.string p.kind, .bool p.on, .bool p.broken, .slice A p.cells.length c, .int .i64 p.count] 31 : Obj) by rw [← hw0.out]; exact heap_old (by simp <;> omega) (heap_old (by simp <;> omega) (heap_old (by simp <;> omega) (heap_new (by simp)))))
  have Y1 := hide (show w0.heap[w.heap.size + 1]? = some (.cells #[.string x.method, .string x.key, .int .i64 x.value, .string x.text] 37 : Obj) by rw [← hw0.out]; exact heap_old (by simp <;> omega) (heap_old (by simp <;> omega) (heap_new (by simp))))
  have Y2 := hide (show w0.heap[w.heap.size + 1 + 1]? = some (.cells #[.string ⟨#[]⟩, .bool false, .bool false, .slice none 0 0, .int .i64 0] 31 : Obj) by rw [← hw0.out]; exact heap_old (by simp <;> omega) (heap_new (by simp)))
  have Y3 := hide (show w0.heap[w.heap.size + 1 + 1 + 1]? = some (.cells #[.int .i64 0, .int .i64 0, .string ⟨#[]⟩, .int .i64 0, .int .i64 0] 33 : Obj) by rw [← hw0.out]; exact heap_new (by simp))
  have hs0 : Hid (w0.heap.size = w.heap.size + 1 + 1 + 1 + 1) := by rw [← hw0.out, Hid]; simp
  go_wp2_with fail
  rw [hw0.out]
  refine (iCopyCore_c p _ _ (RdL.below HS.out.1 b0 (Nat.le_refl _)) hl).mono ?_; rintro e w1 ⟨s1, rfl, o1, b1⟩
  obtain ⟨A1, c1, rfl⟩ := o1.shape
  unfold coreV
  have B1 := below_then b0 b1
  have X0 := hide (row_on b1 Y0.out)
  have X1 := hide (row_on b1 Y1.out)
  have X2 := hide (row_on b1 Y2.out)
  have X3 := hide (row_on b1 Y3.out)
  have HO1 := hide o1
  have hz0 := hs0.out
  have hz1 : w.heap.size + 1 + 1 + 1 < w1.heap.size := (Array.getElem?_eq_some_iff.1 X3.out).1
  clear b1 o1
  obtain ⟨_, _, _, _, _, _⟩ := five_cells X0.out
  have E0 := hide (show (w1.alloc (.cells #[.string p.kind, .bool p.on, .bool p.broken, .slice A1 p.cells.length c1, .int .i64 p.count] 31 : Obj)).heap[w.heap.size]? = some (.cells #[.string p.kind, .bool p.on, .bool p.broken, .slice A p.cells.length c, .int .i64 p.count] 31 : Obj) from heap_old (by omega) X0.out)
  have E1 := hide (show (w1.alloc (.cells #[.string p.kind, .bool p.on, .bool p.broken, .slice A1 p.cells.length c1, .int .i64 p.count] 31 : Obj)).heap[w.heap.size + 1]? = some (.cells #[.string x.method, .string x.key, .int .i64 x.value, .string x.text] 37 : Obj) from heap_old (by omega) X1.out)
  obtain ⟨_, _, _, _, _, _⟩ := five_cells E0.out
  obtain ⟨_, _, _, _, _⟩ := four_cells E1.out
  clear E0 E1
  go_wp2_with fail
  obtain ⟨wa, hwa⟩ : ∃ wa, Hid (w1.alloc (.cells #[.string p.kind, .bool p.on, .bool p.broken, .slice A1 p.cells.length c1, .int .i64 p.count] 31 : Obj) = wa) := ⟨_, rfl⟩
  have ba : Below w1.heap.size w1 wa := by rw [← hwa.out]; exact below_alloc (Below.refl _ _) _
  have Ba := below_then B1 ba
  rw [hwa.out]
  have U0 := hide (row_on ba X0.out)
  have U1 := hide (row_on ba X1.out)
  have U2 := hide (row_on ba X2.out)
  have U3 := hide (row_on ba X3.out)
  have U4 := hide (show wa.heap[w1.heap.size]? = some (.cells #[.string p.kind, .bool p.on, .bool p.broken, .slice A1 p.cells.length c1, .int .i64 p.count] 31 : Obj) by rw [← hwa.out]; exact heap_new rfl)
  have HOa := hide (OwnL.below HO1.out ba (Nat.le_refl _))
  clear ba
  refine (iIsCore_c p _ _ HW.out (RdCells.below HS.out Ba)).mono ?_; rintro e w2 ⟨rfl, b2⟩
  have B2 := below_then Ba b2
  have V0 := hide (row_on b2 U0.out)
  have V1 := hide (row_on b2 U1.out)
  have V2 := hide (row_on b2 U2.out)
  have V3 := hide (row_on b2 U3.out)
  have V4 := hide (row_on b2 U4.out)
  have HO2 := hide (OwnL.below HOa.out b2 (Nat.le_refl _))
  clear b2
  rw [hp]
  obtain ⟨_, _, _, _, _, _⟩ := five_cells V0.out
  obtain ⟨_, _, _, _, _⟩ := four_cells V1.out
  obtain ⟨d0, d1, d2, d3, d4, df⟩ := five_cells V2.out
  obtain ⟨e0, e1, e2, e3, e4, ef⟩ := five_cells V3.out
  obtain ⟨_, _, _, _, _, _⟩ := five_cells V4.out
  go_wp2_with fail
  refine (iIsCall_c x _ HXW.out).mono ?_; rintro e w3 ⟨rfl, bw3⟩
  have Bw3 := below_then B2 bw3
  have Z0 := hide (row_on bw3 V0.out)
  have Z1 := hide (row_on bw3 V1.out)
  have Z2 := hide (row_on bw3 V2.out)
  have Z3 := hide (row_on bw3 V3.out)
  have Z4 := hide (row_on bw3 V4.out)
  have HOw3 := hide (OwnL.below HO2.out bw3 (Nat.le_refl _))
  clear bw3
  rw [hx]
  obtain ⟨_, _, _, _, _, _⟩ := five_cells Z0.out
  obtain ⟨_, _, _, _, _⟩ := four_cells Z1.out
  obtain ⟨d0, d1, d2, d3, d4, df⟩ := five_cells Z2.out
  obtain ⟨e0, e1, e2, e3, e4, ef⟩ := five_cells Z3.out
  obtain ⟨_, _, _, _, _, _⟩ := five_cells Z4.out
  have hkb := Pu.kind_bd p.kind.toList
  obtain ⟨f, HF⟩ : ∃ f, Hid (Pu.kindF p.kind.toList = f) := ⟨_, rfl⟩
  obtain ⟨q, HQ⟩ : ∃ q, Hid (Pu.wantF x.method.toList = q) := ⟨_, rfl⟩
  obtain ⟨kk, HKK⟩ : ∃ kk, Hid (Pu.kindOk p.kind.toList = kk) := ⟨_, rfl⟩
  rw [HF.out] at hkb
  have ho : Pu.offersB f q = false := by rw [← HF.out, ← HQ.out]; exact ho
  go_wp2_with fail
  refine (iKindFace_c _ _).mono ?_; rintro e w4 ⟨rfl, rfl⟩
  have T0 := hide Z0.out
  have T1 := hide Z1.out
  have T2 := hide Z2.out
  have T3 := hide Z3.out
  have T4 := hide Z4.out
  have Bw4 := Bw3
  have HOw4 := hide HOw3.out
  rw [HF.out, HKK.out]
  go_wp2_with fail
  refine (iWantOf_c _ _).mono ?_; rintro e w5 ⟨rfl, bw5⟩
  have Bw5 := below_then Bw4 bw5
  have Q0 := hide (row_on bw5 T0.out)
  have Q1 := hide (row_on bw5 T1.out)
  have Q2 := hide (row_on bw5 T2.out)
  have Q3 := hide (row_on bw5 T3.out)
  have Q4 := hide (row_on bw5 T4.out)
  have HOw5 := hide (OwnL.below HOw4.out bw5 (Nat.le_refl _))
  clear bw5
  rw [HQ.out]
  obtain ⟨_, _, _, _, _, _⟩ := five_cells Q0.out
  obtain ⟨_, _, _, _, _⟩ := four_cells Q1.out
  obtain ⟨d0, d1, d2, d3, d4, df⟩ := five_cells Q2.out
  obtain ⟨e0, e1, e2, e3, e4, ef⟩ := five_cells Q3.out
  obtain ⟨_, _, _, _, _, _⟩ := five_cells Q4.out
  go_wp2_with fail
  refine (iOffers_c f q _).mono ?_; rintro e w5b ⟨rfl, rfl⟩
  rw [ho]
  have hlb : w1.heap.size < w5.heap.size := (Array.getElem?_eq_some_iff.1 Q4.out).1
  have hzx : w.heap.size + 1 < w5.heap.size := (Array.getElem?_eq_some_iff.1 Q1.out).1
  have hz5 : w.heap.size + 1 + 1 + 1 < w5.heap.size := (Array.getElem?_eq_some_iff.1 Q3.out).1
  have hn115a : ¬ w1.heap.size = w.heap.size + 1 + 1 := by omega
  have hn115b : ¬ w.heap.size + 1 + 1 = w1.heap.size := by omega
  have hn117a : ¬ w1.heap.size = w.heap.size + 1 + 1 + 1 := by omega
  have hn117b : ¬ w.heap.size + 1 + 1 + 1 = w1.heap.size := by omega
  have hn119a : ¬ w.heap.size + 1 = w.heap.size + 1 + 1 := by omega
  have hn119b : ¬ w.heap.size + 1 + 1 = w.heap.size + 1 := by omega
  have hn121a : ¬ w.heap.size + 1 = w.heap.size + 1 + 1 + 1 := by omega
  have hn121b : ¬ w.heap.size + 1 + 1 + 1 = w.heap.size + 1 := by omega
  have hn123a : ¬ w1.heap.size = w.heap.size + 1 := by omega
  have hn123b : ¬ w.heap.size + 1 = w1.heap.size := by omega
  have hn125a : ¬ w1.heap.size = w.heap.size := by omega
  have hn125b : ¬ w.heap.size = w1.heap.size := by omega
  have hn127a : ¬ w.heap.size = w.heap.size + 1 := by omega
  have hn127b : ¬ w.heap.size + 1 = w.heap.size := by omega
  have hn129a : ¬ w.heap.size = w.heap.size + 1 + 1 := by omega
  have hn129b : ¬ w.heap.size + 1 + 1 = w.heap.size := by omega
  have hn131a : ¬ w.heap.size = w.heap.size + 1 + 1 + 1 := by omega
  have hn131b : ¬ w.heap.size + 1 + 1 + 1 = w.heap.size := by omega
  rw [HF.out, HQ.out] at HN
  obtain ⟨_, _, _, _, _, _⟩ := five_cells Q0.out
  obtain ⟨_, _, _, _, _⟩ := four_cells Q1.out
  obtain ⟨d0, d1, d2, d3, d4, df⟩ := five_cells Q2.out
  obtain ⟨e0, e1, e2, e3, e4, ef⟩ := five_cells Q3.out
  obtain ⟨_, _, _, _, _, _⟩ := five_cells Q4.out
  have HFX := hide (fun g hg => And.intro (own_ne HOw5.out Q2.out (by decide) g hg) (own_ne HOw5.out Q3.out (by decide) g hg))
  go_wp2
  refine bodyPost_ret (v := .tuple #[.agg #[.string p.kind, .bool p.on, .bool p.broken, .slice A1 p.cells.length c1, .int .i64 p.count], .agg #[.int .i64 1, .int .i64 0, .string ⟨#[]⟩, .int .i64 q, .int .i64 f]]) (by simp [results, Tryz.results16, go_sem, d0, d1, d2, d3, d4, e0, e1, e2, e3, e4]) rfl ?_
  rw [HN.out]
  refine ⟨_, rfl, ?_, ?_⟩
  · iterate 10 refine OwnL.set' ?_ (by intro g hg; have := HFX.out g hg; simp <;> omega) _
    exact OwnL.mono HOw5.out (by omega)
  · iterate 10 refine below_set ?_ (by simp <;> omega) _
    exact Bw5
set_option maxHeartbeats 400000 in
theorem iDoes_x (G : Nat) (p : Pu.CoreD) (x : Pu.CallD) (s : Value) (base : Nat) (w : World) (k1 t1 : ByteArray) (o1 b1 : Bool) (l1 : List Pu.CellD) (n1 c1 v1 wa1 h1 : Int) (hg : w.heap[G]? = some (.cells #[.string p.kind, .bool p.on, .bool p.broken, s, .int .i64 p.count] 31 (0, 0) : Obj)) (hs : OwnL w base 63 2 cellEn s p.cells) (hbG : base ≤ G) (hM : MaxC w) (hT : Pow10 w) (hE : ErrSyn w) (hp : Pu.coreB p = true) (hx : Pu.callB x = true) (ht : x.text.size ≤ 1048576) (HR : Hid (Pu.doF p x = (⟨k1, o1, b1, l1, n1⟩, ⟨c1, v1, t1, wa1, h1⟩))) :
    Calls Tryz.prog 59 #[.pointer (some ⟨G, 0, none⟩), .agg #[.string x.method, .string x.key, .int .i64 x.value, .string x.text]] w fun e w' => ∃ A' c', e = .returned (.agg #[.int .i64 c1, .int .i64 v1, .string t1, .int .i64 wa1, .int .i64 h1]) ∧ w'.heap[G]? = some (.cells #[.string k1, .bool o1, .bool b1, .slice A' l1.length c', .int .i64 n1] 31 (0, 0) : Obj) ∧ OwnL w' base 63 2 cellEn (.slice A' l1.length c') l1 ∧ Below base w w' :=
  (iDoes_c G p x s base w hg hs hbG hM hT hE hp hx ht _ HR).mono fun e w' ⟨A', c', he, hr, ho, hb, _⟩ => ⟨A', c', he, hr, ho, hb⟩
set_option maxHeartbeats 4000000 in
theorem iCallCore_do (p : Pu.CoreD) (x : Pu.CallD) (s : Value) (w : World) (R : Pu.CoreD × Pu.ReplyD) (hw : CoreD.wf p) (hxw : CallD.wf x) (hs : RdCells w s p.cells) (hl : p.cells.length ≤ 16777216) (ht : x.text.size ≤ 1048576) (hM : MaxC w) (hT : Pow10 w) (hE : ErrSyn w) (hp : Pu.coreB p = true) (hx : Pu.callB x = true) (ho : Pu.offersB (Pu.kindF p.kind.toList) (Pu.wantF x.method.toList) = true) (HN : Hid (R = Pu.doF p x)) :
    Calls Tryz.prog 16 #[coreV p s, callV x] w fun e w' => ∃ s', e = .returned (.tuple #[coreV R.1 s', replyV R.2]) ∧ OwnL w' w.heap.size 63 2 cellEn s' R.1.cells ∧ Below w.heap.size w w' := by
  obtain ⟨⟨k1, o1b, b1b, l1, n1⟩, ⟨cc1, v1, t1, wa1, h1⟩⟩ := R
  have hlM := hM.lt
  have hlT := hT.lt
  have hlE := hE.lt
  have HM := hide hM
  have HT := hide hT
  have HE := hide hE
  clear hM hT hE
  obtain ⟨A, c, rfl, _, _, _⟩ := RdL.open_ hs.1
  have HS := hide hs
  have HW := hide hw
  have HXW := hide hxw
  clear hs hw hxw
  unfold coreV callV
  go_enter Tryz.func16, Tryz.ntmps16
  obtain ⟨w0, hw0⟩ : ∃ w0, Hid ((((w.alloc (.cells #[.string p.kind, .bool p.on, .bool p.broken, .slice A p.cells.length c, .int .i64 p.count] 31 : Obj)).alloc (.cells #[.string x.method, .string x.key, .int .i64 x.value, .string x.text] 37 : Obj)).alloc (.cells #[.string ⟨#[]⟩, .bool false, .bool false, .slice none 0 0, .int .i64 0] 31 : Obj)).alloc (.cells #[.int .i64 0, .int .i64 0, .string ⟨#[]⟩, .int .i64 0, .int .i64 0] 33 : Obj) = w0) := ⟨_, rfl⟩
  have b0 : Below w.heap.size w w0 := by rw [← hw0.out]; exact below_alloc (below_alloc (below_alloc (below_alloc (Below.refl _ _) _) _) _) _
  have Y0 := hide (show w0.heap[w.heap.size]? = some (.cells #[.string p.kind, .bool p.on, .bool p.broken, .slice A p.cells.length c, .int .i64 p.count] 31 : Obj) by rw [← hw0.out]; exact heap_old (by simp <;> omega) (heap_old (by simp <;> omega) (heap_old (by simp <;> omega) (heap_new (by simp)))))
  have Y1 := hide (show w0.heap[w.heap.size + 1]? = some (.cells #[.string x.method, .string x.key, .int .i64 x.value, .string x.text] 37 : Obj) by rw [← hw0.out]; exact heap_old (by simp <;> omega) (heap_old (by simp <;> omega) (heap_new (by simp))))
  have Y2 := hide (show w0.heap[w.heap.size + 1 + 1]? = some (.cells #[.string ⟨#[]⟩, .bool false, .bool false, .slice none 0 0, .int .i64 0] 31 : Obj) by rw [← hw0.out]; exact heap_old (by simp <;> omega) (heap_new (by simp)))
  have Y3 := hide (show w0.heap[w.heap.size + 1 + 1 + 1]? = some (.cells #[.int .i64 0, .int .i64 0, .string ⟨#[]⟩, .int .i64 0, .int .i64 0] 33 : Obj) by rw [← hw0.out]; exact heap_new (by simp))
  have hs0 : Hid (w0.heap.size = w.heap.size + 1 + 1 + 1 + 1) := by rw [← hw0.out, Hid]; simp
  go_wp2_with fail
  rw [hw0.out]
  refine (iCopyCore_c p _ _ (RdL.below HS.out.1 b0 (Nat.le_refl _)) hl).mono ?_; rintro e w1 ⟨s1, rfl, o1, b1⟩
  obtain ⟨A1, c1, rfl⟩ := o1.shape
  unfold coreV
  have B1 := below_then b0 b1
  have X0 := hide (row_on b1 Y0.out)
  have X1 := hide (row_on b1 Y1.out)
  have X2 := hide (row_on b1 Y2.out)
  have X3 := hide (row_on b1 Y3.out)
  have HO1 := hide o1
  have hz0 := hs0.out
  have hz1 : w.heap.size + 1 + 1 + 1 < w1.heap.size := (Array.getElem?_eq_some_iff.1 X3.out).1
  clear b1 o1
  obtain ⟨_, _, _, _, _, _⟩ := five_cells X0.out
  have E0 := hide (show (w1.alloc (.cells #[.string p.kind, .bool p.on, .bool p.broken, .slice A1 p.cells.length c1, .int .i64 p.count] 31 : Obj)).heap[w.heap.size]? = some (.cells #[.string p.kind, .bool p.on, .bool p.broken, .slice A p.cells.length c, .int .i64 p.count] 31 : Obj) from heap_old (by omega) X0.out)
  have E1 := hide (show (w1.alloc (.cells #[.string p.kind, .bool p.on, .bool p.broken, .slice A1 p.cells.length c1, .int .i64 p.count] 31 : Obj)).heap[w.heap.size + 1]? = some (.cells #[.string x.method, .string x.key, .int .i64 x.value, .string x.text] 37 : Obj) from heap_old (by omega) X1.out)
  obtain ⟨_, _, _, _, _, _⟩ := five_cells E0.out
  obtain ⟨_, _, _, _, _⟩ := four_cells E1.out
  clear E0 E1
  go_wp2_with fail
  obtain ⟨wa, hwa⟩ : ∃ wa, Hid (w1.alloc (.cells #[.string p.kind, .bool p.on, .bool p.broken, .slice A1 p.cells.length c1, .int .i64 p.count] 31 : Obj) = wa) := ⟨_, rfl⟩
  have ba : Below w1.heap.size w1 wa := by rw [← hwa.out]; exact below_alloc (Below.refl _ _) _
  have Ba := below_then B1 ba
  rw [hwa.out]
  have U0 := hide (row_on ba X0.out)
  have U1 := hide (row_on ba X1.out)
  have U2 := hide (row_on ba X2.out)
  have U3 := hide (row_on ba X3.out)
  have U4 := hide (show wa.heap[w1.heap.size]? = some (.cells #[.string p.kind, .bool p.on, .bool p.broken, .slice A1 p.cells.length c1, .int .i64 p.count] 31 : Obj) by rw [← hwa.out]; exact heap_new rfl)
  have HOa := hide (OwnL.below HO1.out ba (Nat.le_refl _))
  clear ba
  refine (iIsCore_c p _ _ HW.out (RdCells.below HS.out Ba)).mono ?_; rintro e w2 ⟨rfl, b2⟩
  have B2 := below_then Ba b2
  have V0 := hide (row_on b2 U0.out)
  have V1 := hide (row_on b2 U1.out)
  have V2 := hide (row_on b2 U2.out)
  have V3 := hide (row_on b2 U3.out)
  have V4 := hide (row_on b2 U4.out)
  have HO2 := hide (OwnL.below HOa.out b2 (Nat.le_refl _))
  clear b2
  rw [hp]
  obtain ⟨_, _, _, _, _, _⟩ := five_cells V0.out
  obtain ⟨_, _, _, _, _⟩ := four_cells V1.out
  obtain ⟨d0, d1, d2, d3, d4, df⟩ := five_cells V2.out
  obtain ⟨e0, e1, e2, e3, e4, ef⟩ := five_cells V3.out
  obtain ⟨_, _, _, _, _, _⟩ := five_cells V4.out
  go_wp2_with fail
  refine (iIsCall_c x _ HXW.out).mono ?_; rintro e w3 ⟨rfl, bw3⟩
  have Bw3 := below_then B2 bw3
  have Z0 := hide (row_on bw3 V0.out)
  have Z1 := hide (row_on bw3 V1.out)
  have Z2 := hide (row_on bw3 V2.out)
  have Z3 := hide (row_on bw3 V3.out)
  have Z4 := hide (row_on bw3 V4.out)
  have HOw3 := hide (OwnL.below HO2.out bw3 (Nat.le_refl _))
  clear bw3
  rw [hx]
  obtain ⟨_, _, _, _, _, _⟩ := five_cells Z0.out
  obtain ⟨_, _, _, _, _⟩ := four_cells Z1.out
  obtain ⟨d0, d1, d2, d3, d4, df⟩ := five_cells Z2.out
  obtain ⟨e0, e1, e2, e3, e4, ef⟩ := five_cells Z3.out
  obtain ⟨_, _, _, _, _, _⟩ := five_cells Z4.out
  have hkb := Pu.kind_bd p.kind.toList
  obtain ⟨f, HF⟩ : ∃ f, Hid (Pu.kindF p.kind.toList = f) := ⟨_, rfl⟩
  obtain ⟨q, HQ⟩ : ∃ q, Hid (Pu.wantF x.method.toList = q) := ⟨_, rfl⟩
  obtain ⟨kk, HKK⟩ : ∃ kk, Hid (Pu.kindOk p.kind.toList = kk) := ⟨_, rfl⟩
  rw [HF.out] at hkb
  have ho : Pu.offersB f q = true := by rw [← HF.out, ← HQ.out]; exact ho
  go_wp2_with fail
  refine (iKindFace_c _ _).mono ?_; rintro e w4 ⟨rfl, rfl⟩
  have T0 := hide Z0.out
  have T1 := hide Z1.out
  have T2 := hide Z2.out
  have T3 := hide Z3.out
  have T4 := hide Z4.out
  have Bw4 := Bw3
  have HOw4 := hide HOw3.out
  rw [HF.out, HKK.out]
  go_wp2_with fail
  refine (iWantOf_c _ _).mono ?_; rintro e w5 ⟨rfl, bw5⟩
  have Bw5 := below_then Bw4 bw5
  have Q0 := hide (row_on bw5 T0.out)
  have Q1 := hide (row_on bw5 T1.out)
  have Q2 := hide (row_on bw5 T2.out)
  have Q3 := hide (row_on bw5 T3.out)
  have Q4 := hide (row_on bw5 T4.out)
  have HOw5 := hide (OwnL.below HOw4.out bw5 (Nat.le_refl _))
  clear bw5
  rw [HQ.out]
  obtain ⟨_, _, _, _, _, _⟩ := five_cells Q0.out
  obtain ⟨_, _, _, _, _⟩ := four_cells Q1.out
  obtain ⟨d0, d1, d2, d3, d4, df⟩ := five_cells Q2.out
  obtain ⟨e0, e1, e2, e3, e4, ef⟩ := five_cells Q3.out
  obtain ⟨_, _, _, _, _, _⟩ := five_cells Q4.out
  go_wp2_with fail
  refine (iOffers_c f q _).mono ?_; rintro e w5b ⟨rfl, rfl⟩
  rw [ho]
  have hlb : w1.heap.size < w5.heap.size := (Array.getElem?_eq_some_iff.1 Q4.out).1
  have hzx : w.heap.size + 1 < w5.heap.size := (Array.getElem?_eq_some_iff.1 Q1.out).1
  have hz5 : w.heap.size + 1 + 1 + 1 < w5.heap.size := (Array.getElem?_eq_some_iff.1 Q3.out).1
  have hn116a : ¬ w1.heap.size = w.heap.size + 1 + 1 := by omega
  have hn116b : ¬ w.heap.size + 1 + 1 = w1.heap.size := by omega
  have hn118a : ¬ w1.heap.size = w.heap.size + 1 + 1 + 1 := by omega
  have hn118b : ¬ w.heap.size + 1 + 1 + 1 = w1.heap.size := by omega
  have hn120a : ¬ w.heap.size + 1 = w.heap.size + 1 + 1 := by omega
  have hn120b : ¬ w.heap.size + 1 + 1 = w.heap.size + 1 := by omega
  have hn122a : ¬ w.heap.size + 1 = w.heap.size + 1 + 1 + 1 := by omega
  have hn122b : ¬ w.heap.size + 1 + 1 + 1 = w.heap.size + 1 := by omega
  have hn124a : ¬ w1.heap.size = w.heap.size + 1 := by omega
  have hn124b : ¬ w.heap.size + 1 = w1.heap.size := by omega
  have hn126a : ¬ w1.heap.size = w.heap.size := by omega
  have hn126b : ¬ w.heap.size = w1.heap.size := by omega
  have hn128a : ¬ w.heap.size = w.heap.size + 1 := by omega
  have hn128b : ¬ w.heap.size + 1 = w.heap.size := by omega
  have hn130a : ¬ w.heap.size = w.heap.size + 1 + 1 := by omega
  have hn130b : ¬ w.heap.size + 1 + 1 = w.heap.size := by omega
  have hn132a : ¬ w.heap.size = w.heap.size + 1 + 1 + 1 := by omega
  have hn132b : ¬ w.heap.size + 1 + 1 + 1 = w.heap.size := by omega
  have HP := hide hp
  have HX := hide hx
  clear hp hx
  obtain ⟨_, _, _, _, _, _⟩ := five_cells Q0.out
  obtain ⟨_, _, _, _, _⟩ := four_cells Q1.out
  obtain ⟨d0, d1, d2, d3, d4, df⟩ := five_cells Q2.out
  obtain ⟨e0, e1, e2, e3, e4, ef⟩ := five_cells Q3.out
  obtain ⟨_, _, _, _, _, _⟩ := five_cells Q4.out
  go_wp2_with fail
  refine (iDoes_x w1.heap.size p x _ w0.heap.size _ k1 t1 o1b b1b l1 n1 cc1 v1 wa1 h1 Q4.out HOw5.out (by omega) (HM.out.below Bw5 hlM) (HT.out.below Bw5 hlT) (HE.out.below Bw5 hlE) HP.out HX.out ht HN.symm).mono ?_; rintro e w6 ⟨A7, c7, rfl, r6, o6, b6⟩
  obtain ⟨w7, hw7⟩ : ∃ w7, Hid (w6.alloc (.cells #[.int .i64 cc1, .int .i64 v1, .string t1, .int .i64 wa1, .int .i64 h1] 33 : Obj) = w7) := ⟨_, rfl⟩
  have b67 : Below w6.heap.size w6 w7 := by rw [← hw7.out]; exact below_alloc (Below.refl _ _) _
  have z2 := hide (row_on b67 ((b6.block (w.heap.size + 1 + 1) (by omega)).trans Q2.out))
  have z3 := hide (row_on b67 ((b6.block (w.heap.size + 1 + 1 + 1) (by omega)).trans Q3.out))
  have zG := hide (row_on b67 r6)
  have zR := hide (show w7.heap[w6.heap.size]? = some (.cells #[.int .i64 cc1, .int .i64 v1, .string t1, .int .i64 wa1, .int .i64 h1] 33 : Obj) by rw [← hw7.out]; exact heap_new rfl)
  have B6 : Below w.heap.size w w6 := Bw5.trans (b6.mono (by omega))
  have B7 := below_then B6 b67
  have o7 := OwnL.below o6 b67 (Nat.le_refl _)
  have HFX := hide (fun g hg => And.intro (own_ne o7 z2.out (by decide) g hg) (own_ne o7 z3.out (by decide) g hg))
  have HO7 := hide o7
  have hr6 : w1.heap.size < w6.heap.size := (Array.getElem?_eq_some_iff.1 r6).1
  clear r6 o6 b6 b67 o7
  have hn157a : ¬ w6.heap.size = w.heap.size + 1 + 1 := by omega
  have hn157b : ¬ w.heap.size + 1 + 1 = w6.heap.size := by omega
  have hn159a : ¬ w6.heap.size = w.heap.size + 1 + 1 + 1 := by omega
  have hn159b : ¬ w.heap.size + 1 + 1 + 1 = w6.heap.size := by omega
  go_wp2_with fail
  rw [hw7.out]
  obtain ⟨d0, d1, d2, d3, d4, df⟩ := five_cells z2.out
  obtain ⟨e0, e1, e2, e3, e4, ef⟩ := five_cells z3.out
  obtain ⟨_, _, _, _, _, _⟩ := five_cells zG.out
  obtain ⟨_, _, _, _, _, _⟩ := five_cells zR.out
  go_region
  go_wp2
  refine bodyPost_ret (v := .tuple #[.agg #[.string k1, .bool o1b, .bool b1b, .slice A7 l1.length c7, .int .i64 n1], .agg #[.int .i64 cc1, .int .i64 v1, .string t1, .int .i64 wa1, .int .i64 h1]]) (by simp [results, Tryz.results16, go_sem, d0, d1, d2, d3, d4, e0, e1, e2, e3, e4]) rfl ?_
  refine ⟨_, rfl, ?_, ?_⟩
  · refine own_drew ?_
    iterate 10 refine OwnL.set' ?_ (by intro g hg; have := HFX.out g hg; simp <;> omega) _
    exact OwnL.mono HO7.out (by omega)
  · refine Below.drew ?_
    iterate 10 refine below_set ?_ (by simp <;> omega) _
    exact B7
set_option maxHeartbeats 400000 in
theorem iCallCore_c (p : Pu.CoreD) (x : Pu.CallD) (s : Value) (w : World) (hM : MaxC w) (hT : Pow10 w) (hE : ErrSyn w) (hw : CoreD.wf p) (hxw : CallD.wf x) (hs : RdCells w s p.cells) (hl : p.cells.length ≤ 16777216) (ht : x.text.size ≤ 1048576) (R : Pu.CoreD × Pu.ReplyD) (HR : Hid (Pu.callF p x = R)) :
    Calls Tryz.prog 16 #[coreV p s, callV x] w fun e w' => ∃ s', e = .returned (.tuple #[coreV R.1 s', replyV R.2]) ∧ OwnL w' w.heap.size 63 2 cellEn s' R.1.cells ∧ Below w.heap.size w w' := by
  rcases hp : Pu.coreB p with _ | _
  · exact iCallCore_bad1 p x s w R hw hxw hs hl ht hp (by rw [Hid, ← HR.out, Pu.callF, hp]; rfl)
  rcases hx : Pu.callB x with _ | _
  · exact iCallCore_bad2 p x s w R hw hxw hs hl ht hp hx (by rw [Hid, ← HR.out, Pu.callF, hp, hx]; rfl)
  rcases ho : Pu.offersB (Pu.kindF p.kind.toList) (Pu.wantF x.method.toList) with _ | _
  · exact iCallCore_no p x s w R hw hxw hs hl ht hp hx ho (by rw [Hid, ← HR.out, Pu.callF, hp, hx, Pu.faceK, ho]; rfl)
  · exact iCallCore_do p x s w R hw hxw hs hl ht hM hT hE hp hx ho (by rw [Hid, ← HR.out, Pu.callF, hp, hx, Pu.faceK, ho]; rfl)
end Go.Proofs.YtllmcnmongaahaaGreatDoor
