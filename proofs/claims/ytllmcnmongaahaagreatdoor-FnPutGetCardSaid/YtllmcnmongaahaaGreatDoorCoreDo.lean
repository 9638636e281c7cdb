/- Contracts: what the reference's calls do to a core (l3Do). Written by wip/tools/coregen.py. -/
import Derived.Test.YtllmcnmongaahaaGreatDoorCoreKeep
import Derived.Test.YtllmcnmongaahaaGreatDoorM2
import Derived.Test.YtllmcnmongaahaaGreatDoorM1
import Derived.Test.YtllmcnmongaahaaGreatDoorPCells
namespace Go.Proofs.YtllmcnmongaahaaGreatDoor
open Go.ChangeShapes Go.WideShapes Go.ChangeAt Go.RowKit
set_option maxRecDepth 100000
set_option linter.unusedVariables false
set_option maxHeartbeats 2000000 in
theorem l3Do_broken (k m key t : ByteArray) (v : Int) (o : Bool) (r : Bool) (s : Value) (l : List Pu.CellD) (n : Int) (base : Nat) (w : World) (R : Pu.CoreD × Pu.ReplyD) (hs : OwnL w base 63 2 cellEn s l) (hbs : base ≤ w.heap.size) (hc : Pu.cellsB l = true) (hn0 : 0 ≤ n) (hHeal : (m.toList == [72, 101, 97, 108]) = false) (hTell : (m.toList == [84, 101, 108, 108]) = false) (HN : Hid (R = (⟨k, o, true, l, n⟩, Pu.rp 3 0))) :
    Calls Tryz.prog 55 #[.agg #[.string k, .bool o, .bool true, s, .int .i64 n], .agg #[.string m, .string key, .int .i64 v, .string t], .bool r] w fun e w' => ∃ s', e = .returned (.tuple #[coreV R.1 s', replyV R.2]) ∧ OwnL w' base 63 2 cellEn s' R.1.cells ∧ Below w.heap.size w w' := by
  obtain ⟨A, c, rfl⟩ := hs.shape
  have HS := hide hs
  have hfar0 := fun g hg => (OwnL.lt hs (g := g) hg).2
  have HFAR := hide hfar0
  have HCC := hide hc
  clear hs hfar0 hc
  go_enter Tryz.func55, Tryz.ntmps55
  obtain ⟨w0, hw0⟩ : ∃ w0, Hid ((((w.alloc (.cells #[.string k, .bool o, .bool true, .slice A l.length c, .int .i64 n] 31 : Obj)).alloc (.cells #[.string m, .string key, .int .i64 v, .string t] 37 : Obj)).alloc (.cells #[.string ⟨#[]⟩, .bool false, .bool false, .slice none 0 0, .int .i64 0] 31 : Obj)).alloc (.cells #[.int .i64 0, .int .i64 0, .string ⟨#[]⟩, .int .i64 0, .int .i64 0] 33 : Obj) = w0) := ⟨_, rfl⟩
  have b0 : Below w.heap.size w w0 := by rw [← hw0.out]; exact below_alloc (below_alloc (below_alloc (below_alloc (Below.refl _ _) _) _) _) _
  have Y0 := hide (show w0.heap[w.heap.size]? = some (.cells #[.string k, .bool o, .bool true, .slice A l.length c, .int .i64 n] 31 : Obj) by rw [← hw0.out]; exact heap_old (by simp <;> omega) (heap_old (by simp <;> omega) (heap_old (by simp <;> omega) (heap_new (by simp)))))
  have Y1 := hide (show w0.heap[w.heap.size + 1]? = some (.cells #[.string m, .string key, .int .i64 v, .string t] 37 : Obj) by rw [← hw0.out]; exact heap_old (by simp <;> omega) (heap_old (by simp <;> omega) (heap_new (by simp))))
  have Y2 := hide (show w0.heap[w.heap.size + 1 + 1]? = some (.cells #[.string ⟨#[]⟩, .bool false, .bool false, .slice none 0 0, .int .i64 0] 31 : Obj) by rw [← hw0.out]; exact heap_old (by simp <;> omega) (heap_new (by simp)))
  have Y3 := hide (show w0.heap[w.heap.size + 1 + 1 + 1]? = some (.cells #[.int .i64 0, .int .i64 0, .string ⟨#[]⟩, .int .i64 0, .int .i64 0] 33 : Obj) by rw [← hw0.out]; exact heap_new (by simp))
  have hs0 : Hid (w0.heap.size = w.heap.size + 1 + 1 + 1 + 1) := by rw [← hw0.out, Hid]; simp
  go_wp2
  refine bodyPost_ret (v := .tuple #[.agg #[.string k, .bool o, .bool true, .slice A l.length c, .int .i64 n], .agg #[.int .i64 3, .int .i64 0, .string ⟨#[]⟩, .int .i64 0, .int .i64 0]]) (by simp [results, Tryz.results55, go_sem]) rfl ?_
  rw [HN.out]
  refine ⟨_, rfl, ?_, ?_⟩
  · exact OwnL.below HS.out (below_alloc (below_alloc (below_alloc (below_alloc (Below.refl _ _) _) _) _) _) (Nat.le_refl _)
  · exact below_alloc (below_alloc (below_alloc (below_alloc (Below.refl _ _) _) _) _) _
set_option maxHeartbeats 2000000 in
theorem l3Do_tellf (k m key t : ByteArray) (v : Int) (o : Bool) (r : Bool) (s : Value) (l : List Pu.CellD) (n : Int) (base : Nat) (w : World) (R : Pu.CoreD × Pu.ReplyD) (hs : OwnL w base 63 2 cellEn s l) (hbs : base ≤ w.heap.size) (hc : Pu.cellsB l = true) (hn0 : 0 ≤ n) (hGet : (m.toList == [71, 101, 116]) = false) (hPut : (m.toList == [80, 117, 116]) = false) (hHeal : (m.toList == [72, 101, 97, 108]) = false) (hTell : (m.toList == [84, 101, 108, 108]) = true) (HN : Hid (R = (⟨k, o, false, l, n⟩, Pu.rp 0 n))) :
    Calls Tryz.prog 55 #[.agg #[.string k, .bool o, .bool false, s, .int .i64 n], .agg #[.string m, .string key, .int .i64 v, .string t], .bool r] w fun e w' => ∃ s', e = .returned (.tuple #[coreV R.1 s', replyV R.2]) ∧ OwnL w' base 63 2 cellEn s' R.1.cells ∧ Below w.heap.size w w' := by
  obtain ⟨A, c, rfl⟩ := hs.shape
  have HS := hide hs
  have hfar0 := fun g hg => (OwnL.lt hs (g := g) hg).2
  have HFAR := hide hfar0
  have HCC := hide hc
  clear hs hfar0 hc
  go_enter Tryz.func55, Tryz.ntmps55
  obtain ⟨w0, hw0⟩ : ∃ w0, Hid ((((w.alloc (.cells #[.string k, .bool o, .bool false, .slice A l.length c, .int .i64 n] 31 : Obj)).alloc (.cells #[.string m, .string key, .int .i64 v, .string t] 37 : Obj)).alloc (.cells #[.string ⟨#[]⟩, .bool false, .bool false, .slice none 0 0, .int .i64 0] 31 : Obj)).alloc (.cells #[.int .i64 0, .int .i64 0, .string ⟨#[]⟩, .int .i64 0, .int .i64 0] 33 : Obj) = w0) := ⟨_, rfl⟩
  have b0 : Below w.heap.size w w0 := by rw [← hw0.out]; exact below_alloc (below_alloc (below_alloc (below_alloc (Below.refl _ _) _) _) _) _
  have Y0 := hide (show w0.heap[w.heap.size]? = some (.cells #[.string k, .bool o, .bool false, .slice A l.length c, .int .i64 n] 31 : Obj) by rw [← hw0.out]; exact heap_old (by simp <;> omega) (heap_old (by simp <;> omega) (heap_old (by simp <;> omega) (heap_new (by simp)))))
  have Y1 := hide (show w0.heap[w.heap.size + 1]? = some (.cells #[.string m, .string key, .int .i64 v, .string t] 37 : Obj) by rw [← hw0.out]; exact heap_old (by simp <;> omega) (heap_old (by simp <;> omega) (heap_new (by simp))))
  have Y2 := hide (show w0.heap[w.heap.size + 1 + 1]? = some (.cells #[.string ⟨#[]⟩, .bool false, .bool false, .slice none 0 0, .int .i64 0] 31 : Obj) by rw [← hw0.out]; exact heap_old (by simp <;> omega) (heap_new (by simp)))
  have Y3 := hide (show w0.heap[w.heap.size + 1 + 1 + 1]? = some (.cells #[.int .i64 0, .int .i64 0, .string ⟨#[]⟩, .int .i64 0, .int .i64 0] 33 : Obj) by rw [← hw0.out]; exact heap_new (by simp))
  have hs0 : Hid (w0.heap.size = w.heap.size + 1 + 1 + 1 + 1) := by rw [← hw0.out, Hid]; simp
  go_wp2_with fail
  rw [hw0.out]
  obtain ⟨_, _, _, _, _, _⟩ := five_cells Y0.out
  obtain ⟨_, _, _, _, _⟩ := four_cells Y1.out
  obtain ⟨d0, d1, d2, d3, d4, df⟩ := five_cells Y2.out
  obtain ⟨e0, e1, e2, e3, e4, ef⟩ := five_cells Y3.out
  have HO0 := hide (OwnL.below HS.out b0 (Nat.le_refl _))
  go_region
  go_wp2
  refine bodyPost_ret (v := .tuple #[.agg #[.string k, .bool o, .bool false, .slice A l.length c, .int .i64 n], .agg #[.int .i64 0, .int .i64 n, .string ⟨#[]⟩, .int .i64 0, .int .i64 0]]) (by simp [results, Tryz.results55, go_sem, d0, d1, d2, d3, d4, e0, e1, e2, e3, e4]) rfl ?_
  rw [HN.out]
  refine ⟨_, rfl, ?_, ?_⟩
  · refine own_drew ?_
    iterate 10 refine OwnL.set' ?_ (by intro g hg; have := HFAR.out g hg; simp <;> omega) _
    exact HO0.out
  · refine Below.drew ?_
    iterate 10 refine below_set ?_ (by simp <;> omega) _
    exact b0
set_option maxHeartbeats 2000000 in
theorem l3Do_tellt (k m key t : ByteArray) (v : Int) (o : Bool) (r : Bool) (s : Value) (l : List Pu.CellD) (n : Int) (base : Nat) (w : World) (R : Pu.CoreD × Pu.ReplyD) (hs : OwnL w base 63 2 cellEn s l) (hbs : base ≤ w.heap.size) (hc : Pu.cellsB l = true) (hn0 : 0 ≤ n) (hGet : (m.toList == [71, 101, 116]) = false) (hPut : (m.toList == [80, 117, 116]) = false) (hHeal : (m.toList == [72, 101, 97, 108]) = false) (hTell : (m.toList == [84, 101, 108, 108]) = true) (HN : Hid (R = (⟨k, o, true, l, n⟩, Pu.rp 0 n))) :
    Calls Tryz.prog 55 #[.agg #[.string k, .bool o, .bool true, s, .int .i64 n], .agg #[.string m, .string key, .int .i64 v, .string t], .bool r] w fun e w' => ∃ s', e = .returned (.tuple #[coreV R.1 s', replyV R.2]) ∧ OwnL w' base 63 2 cellEn s' R.1.cells ∧ Below w.heap.size w w' := by
  obtain ⟨A, c, rfl⟩ := hs.shape
  have HS := hide hs
  have hfar0 := fun g hg => (OwnL.lt hs (g := g) hg).2
  have HFAR := hide hfar0
  have HCC := hide hc
  clear hs hfar0 hc
  go_enter Tryz.func55, Tryz.ntmps55
  obtain ⟨w0, hw0⟩ : ∃ w0, Hid ((((w.alloc (.cells #[.string k, .bool o, .bool true, .slice A l.length c, .int .i64 n] 31 : Obj)).alloc (.cells #[.string m, .string key, .int .i64 v, .string t] 37 : Obj)).alloc (.cells #[.string ⟨#[]⟩, .bool false, .bool false, .slice none 0 0, .int .i64 0] 31 : Obj)).alloc (.cells #[.int .i64 0, .int .i64 0, .string ⟨#[]⟩, .int .i64 0, .int .i64 0] 33 : Obj) = w0) := ⟨_, rfl⟩
  have b0 : Below w.heap.size w w0 := by rw [← hw0.out]; exact below_alloc (below_alloc (below_alloc (below_alloc (Below.refl _ _) _) _) _) _
  have Y0 := hide (show w0.heap[w.heap.size]? = some (.cells #[.string k, .bool o, .bool true, .slice A l.length c, .int .i64 n] 31 : Obj) by rw [← hw0.out]; exact heap_old (by simp <;> omega) (heap_old (by simp <;> omega) (heap_old (by simp <;> omega) (heap_new (by simp)))))
  have Y1 := hide (show w0.heap[w.heap.size + 1]? = some (.cells #[.string m, .string key, .int .i64 v, .string t] 37 : Obj) by rw [← hw0.out]; exact heap_old (by simp <;> omega) (heap_old (by simp <;> omega) (heap_new (by simp))))
  have Y2 := hide (show w0.heap[w.heap.size + 1 + 1]? = some (.cells #[.string ⟨#[]⟩, .bool false, .bool false, .slice none 0 0, .int .i64 0] 31 : Obj) by rw [← hw0.out]; exact heap_old (by simp <;> omega) (heap_new (by simp)))
  have Y3 := hide (show w0.heap[w.heap.size + 1 + 1 + 1]? = some (.cells #[.int .i64 0, .int .i64 0, .string ⟨#[]⟩, .int .i64 0, .int .i64 0] 33 : Obj) by rw [← hw0.out]; exact heap_new (by simp))
  have hs0 : Hid (w0.heap.size = w.heap.size + 1 + 1 + 1 + 1) := by rw [← hw0.out, Hid]; simp
  go_wp2_with fail
  rw [hw0.out]
  obtain ⟨_, _, _, _, _, _⟩ := five_cells Y0.out
  obtain ⟨_, _, _, _, _⟩ := four_cells Y1.out
  obtain ⟨d0, d1, d2, d3, d4, df⟩ := five_cells Y2.out
  obtain ⟨e0, e1, e2, e3, e4, ef⟩ := five_cells Y3.out
  have HO0 := hide (OwnL.below HS.out b0 (Nat.le_refl _))
  go_region
  go_wp2
  refine bodyPost_ret (v := .tuple #[.agg #[.string k, .bool o, .bool true, .slice A l.length c, .int .i64 n], .agg #[.int .i64 0, .int .i64 n, .string ⟨#[]⟩, .int .i64 0, .int .i64 0]]) (by simp [results, Tryz.results55, go_sem, d0, d1, d2, d3, d4, e0, e1, e2, e3, e4]) rfl ?_
  rw [HN.out]
  refine ⟨_, rfl, ?_, ?_⟩
  · refine own_drew ?_
    iterate 10 refine OwnL.set' ?_ (by intro g hg; have := HFAR.out g hg; simp <;> omega) _
    exact HO0.out
  · refine Below.drew ?_
    iterate 10 refine below_set ?_ (by simp <;> omega) _
    exact b0
set_option maxHeartbeats 2000000 in
theorem l3Do_hear1 (k m key t : ByteArray) (o : Bool) (r : Bool) (s : Value) (l : List Pu.CellD) (n : Int) (base : Nat) (w : World) (R : Pu.CoreD × Pu.ReplyD) (hs : OwnL w base 63 2 cellEn s l) (hbs : base ≤ w.heap.size) (hc : Pu.cellsB l = true) (hn0 : 0 ≤ n) (hGet : (m.toList == [71, 101, 116]) = false) (hPut : (m.toList == [80, 117, 116]) = false) (hTell : (m.toList == [84, 101, 108, 108]) = false) (hHear : (m.toList == [72, 101, 97, 114]) = true) (HN : Hid (R = (⟨k, true, false, l, Pu.upF n⟩, Pu.rp 0 (Pu.upF n)))) :
    Calls Tryz.prog 55 #[.agg #[.string k, .bool o, .bool false, s, .int .i64 n], .agg #[.string m, .string key, .int .i64 1, .string t], .bool r] w fun e w' => ∃ s', e = .returned (.tuple #[coreV R.1 s', replyV R.2]) ∧ OwnL w' base 63 2 cellEn s' R.1.cells ∧ Below w.heap.size w w' := by
  obtain ⟨A, c, rfl⟩ := hs.shape
  have HS := hide hs
  have hfar0 := fun g hg => (OwnL.lt hs (g := g) hg).2
  have HFAR := hide hfar0
  have HCC := hide hc
  clear hs hfar0 hc
  go_enter Tryz.func55, Tryz.ntmps55
  obtain ⟨w0, hw0⟩ : ∃ w0, Hid ((((w.alloc (.cells #[.string k, .bool o, .bool false, .slice A l.length c, .int .i64 n] 31 : Obj)).alloc (.cells #[.string m, .string key, .int .i64 1, .string t] 37 : Obj)).alloc (.cells #[.string ⟨#[]⟩, .bool false, .bool false, .slice none 0 0, .int .i64 0] 31 : Obj)).alloc (.cells #[.int .i64 0, .int .i64 0, .string ⟨#[]⟩, .int .i64 0, .int .i64 0] 33 : Obj) = w0) := ⟨_, rfl⟩
  have b0 : Below w.heap.size w w0 := by rw [← hw0.out]; exact below_alloc (below_alloc (below_alloc (below_alloc (Below.refl _ _) _) _) _) _
  have Y0 := hide (show w0.heap[w.heap.size]? = some (.cells #[.string k, .bool o, .bool false, .slice A l.length c, .int .i64 n] 31 : Obj) by rw [← hw0.out]; exact heap_old (by simp <;> omega) (heap_old (by simp <;> omega) (heap_old (by simp <;> omega) (heap_new (by simp)))))
  have Y1 := hide (show w0.heap[w.heap.size + 1]? = some (.cells #[.string m, .string key, .int .i64 1, .string t] 37 : Obj) by rw [← hw0.out]; exact heap_old (by simp <;> omega) (heap_old (by simp <;> omega) (heap_new (by simp))))
  have Y2 := hide (show w0.heap[w.heap.size + 1 + 1]? = some (.cells #[.string ⟨#[]⟩, .bool false, .bool false, .slice none 0 0, .int .i64 0] 31 : Obj) by rw [← hw0.out]; exact heap_old (by simp <;> omega) (heap_new (by simp)))
  have Y3 := hide (show w0.heap[w.heap.size + 1 + 1 + 1]? = some (.cells #[.int .i64 0, .int .i64 0, .string ⟨#[]⟩, .int .i64 0, .int .i64 0] 33 : Obj) by rw [← hw0.out]; exact heap_new (by simp))
  have hs0 : Hid (w0.heap.size = w.heap.size + 1 + 1 + 1 + 1) := by rw [← hw0.out, Hid]; simp
  go_wp2_with fail
  refine (l3Up_c n _ hn0).mono ?_; rintro e w1 ⟨rfl, rfl⟩
  go_wp2_with fail
  clear b0 Y0 Y1 Y2 Y3 hs0
  obtain ⟨w5, hw5⟩ : ∃ w5, Hid ((((w.alloc (.cells #[.string k, .bool true, .bool false, .slice A l.length c, .int .i64 (Pu.upF n)] 31 : Obj)).alloc (.cells #[.string m, .string key, .int .i64 1, .string t] 37 : Obj)).alloc (.cells #[.string ⟨#[]⟩, .bool false, .bool false, .slice none 0 0, .int .i64 0] 31 : Obj)).alloc (.cells #[.int .i64 0, .int .i64 0, .string ⟨#[]⟩, .int .i64 0, .int .i64 0] 33 : Obj) = w5) := ⟨_, rfl⟩
  have b5 : Below w.heap.size w w5 := by rw [← hw5.out]; exact below_alloc (below_alloc (below_alloc (below_alloc (Below.refl _ _) _) _) _) _
  have V0 := hide (show w5.heap[w.heap.size]? = some (.cells #[.string k, .bool true, .bool false, .slice A l.length c, .int .i64 (Pu.upF n)] 31 : Obj) by rw [← hw5.out]; exact heap_old (by simp <;> omega) (heap_old (by simp <;> omega) (heap_old (by simp <;> omega) (heap_new (by simp)))))
  have V1 := hide (show w5.heap[w.heap.size + 1]? = some (.cells #[.string m, .string key, .int .i64 1, .string t] 37 : Obj) by rw [← hw5.out]; exact heap_old (by simp <;> omega) (heap_old (by simp <;> omega) (heap_new (by simp))))
  have V2 := hide (show w5.heap[w.heap.size + 1 + 1]? = some (.cells #[.string ⟨#[]⟩, .bool false, .bool false, .slice none 0 0, .int .i64 0] 31 : Obj) by rw [← hw5.out]; exact heap_old (by simp <;> omega) (heap_new (by simp)))
  have V3 := hide (show w5.heap[w.heap.size + 1 + 1 + 1]? = some (.cells #[.int .i64 0, .int .i64 0, .string ⟨#[]⟩, .int .i64 0, .int .i64 0] 33 : Obj) by rw [← hw5.out]; exact heap_new (by simp))
  rw [hw5.out]
  obtain ⟨_, _, _, _, _, _⟩ := five_cells V0.out
  obtain ⟨_, _, _, _, _⟩ := four_cells V1.out
  obtain ⟨d0, d1, d2, d3, d4, df⟩ := five_cells V2.out
  obtain ⟨e0, e1, e2, e3, e4, ef⟩ := five_cells V3.out
  have HO5 := hide (OwnL.below HS.out b5 (Nat.le_refl _))
  go_region
  go_wp2
  refine bodyPost_ret (v := .tuple #[.agg #[.string k, .bool true, .bool false, .slice A l.length c, .int .i64 (Pu.upF n)], .agg #[.int .i64 0, .int .i64 (Pu.upF n), .string ⟨#[]⟩, .int .i64 0, .int .i64 0]]) (by simp [results, Tryz.results55, go_sem, d0, d1, d2, d3, d4, e0, e1, e2, e3, e4]) rfl ?_
  rw [HN.out]
  refine ⟨_, rfl, ?_, ?_⟩
  · refine own_drew ?_
    iterate 10 refine OwnL.set' ?_ (by intro g hg; have := HFAR.out g hg; simp <;> omega) _
    exact HO5.out
  · refine Below.drew ?_
    iterate 10 refine below_set ?_ (by simp <;> omega) _
    exact b5
set_option maxHeartbeats 2000000 in
theorem l3Do_hear0f (k m key t : ByteArray) (r : Bool) (s : Value) (l : List Pu.CellD) (n : Int) (base : Nat) (w : World) (R : Pu.CoreD × Pu.ReplyD) (hs : OwnL w base 63 2 cellEn s l) (hbs : base ≤ w.heap.size) (hc : Pu.cellsB l = true) (hn0 : 0 ≤ n) (hGet : (m.toList == [71, 101, 116]) = false) (hPut : (m.toList == [80, 117, 116]) = false) (hTell : (m.toList == [84, 101, 108, 108]) = false) (hHear : (m.toList == [72, 101, 97, 114]) = true) (HN : Hid (R = (⟨k, false, false, l, Pu.upF n⟩, Pu.rp 0 (Pu.upF n)))) :
    Calls Tryz.prog 55 #[.agg #[.string k, .bool false, .bool false, s, .int .i64 n], .agg #[.string m, .string key, .int .i64 0, .string t], .bool r] w fun e w' => ∃ s', e = .returned (.tuple #[coreV R.1 s', replyV R.2]) ∧ OwnL w' base 63 2 cellEn s' R.1.cells ∧ Below w.heap.size w w' := by
  obtain ⟨A, c, rfl⟩ := hs.shape
  have HS := hide hs
  have hfar0 := fun g hg => (OwnL.lt hs (g := g) hg).2
  have HFAR := hide hfar0
  have HCC := hide hc
  clear hs hfar0 hc
  go_enter Tryz.func55, Tryz.ntmps55
  obtain ⟨w0, hw0⟩ : ∃ w0, Hid ((((w.alloc (.cells #[.string k, .bool false, .bool false, .slice A l.length c, .int .i64 n] 31 : Obj)).alloc (.cells #[.string m, .string key, .int .i64 0, .string t] 37 : Obj)).alloc (.cells #[.string ⟨#[]⟩, .bool false, .bool false, .slice none 0 0, .int .i64 0] 31 : Obj)).alloc (.cells #[.int .i64 0, .int .i64 0, .string ⟨#[]⟩, .int .i64 0, .int .i64 0] 33 : Obj) = w0) := ⟨_, rfl⟩
  have b0 : Below w.heap.size w w0 := by rw [← hw0.out]; exact below_alloc (below_alloc (below_alloc (below_alloc (Below.refl _ _) _) _) _) _
  have Y0 := hide (show w0.heap[w.heap.size]? = some (.cells #[.string k, .bool false, .bool false, .slice A l.length c, .int .i64 n] 31 : Obj) by rw [← hw0.out]; exact heap_old (by simp <;> omega) (heap_old (by simp <;> omega) (heap_old (by simp <;> omega) (heap_new (by simp)))))
  have Y1 := hide (show w0.heap[w.heap.size + 1]? = some (.cells #[.string m, .string key, .int .i64 0, .string t] 37 : Obj) by rw [← hw0.out]; exact heap_old (by simp <;> omega) (heap_old (by simp <;> omega) (heap_new (by simp))))
  have Y2 := hide (show w0.heap[w.heap.size + 1 + 1]? = some (.cells #[.string ⟨#[]⟩, .bool false, .bool false, .slice none 0 0, .int .i64 0] 31 : Obj) by rw [← hw0.out]; exact heap_old (by simp <;> omega) (heap_new (by simp)))
  have Y3 := hide (show w0.heap[w.heap.size + 1 + 1 + 1]? = some (.cells #[.int .i64 0, .int .i64 0, .string ⟨#[]⟩, .int .i64 0, .int .i64 0] 33 : Obj) by rw [← hw0.out]; exact heap_new (by simp))
  have hs0 : Hid (w0.heap.size = w.heap.size + 1 + 1 + 1 + 1) := by rw [← hw0.out, Hid]; simp
  go_wp2_with fail
  refine (l3Up_c n _ hn0).mono ?_; rintro e w1 ⟨rfl, rfl⟩
  go_wp2_with fail
  clear b0 Y0 Y1 Y2 Y3 hs0
  obtain ⟨w5, hw5⟩ : ∃ w5, Hid ((((w.alloc (.cells #[.string k, .bool false, .bool false, .slice A l.length c, .int .i64 (Pu.upF n)] 31 : Obj)).alloc (.cells #[.string m, .string key, .int .i64 0, .string t] 37 : Obj)).alloc (.cells #[.string ⟨#[]⟩, .bool false, .bool false, .slice none 0 0, .int .i64 0] 31 : Obj)).alloc (.cells #[.int .i64 0, .int .i64 0, .string ⟨#[]⟩, .int .i64 0, .int .i64 0] 33 : Obj) = w5) := ⟨_, rfl⟩
  have b5 : Below w.heap.size w w5 := by rw [← hw5.out]; exact below_alloc (below_alloc (below_alloc (below_alloc (Below.refl _ _) _) _) _) _
  have V0 := hide (show w5.heap[w.heap.size]? = some (.cells #[.string k, .bool false, .bool false, .slice A l.length c, .int .i64 (Pu.upF n)] 31 : Obj) by rw [← hw5.out]; exact heap_old (by simp <;> omega) (heap_old (by simp <;> omega) (heap_old (by simp <;> omega) (heap_new (by simp)))))
  have V1 := hide (show w5.heap[w.heap.size + 1]? = some (.cells #[.string m, .string key, .int .i64 0, .string t] 37 : Obj) by rw [← hw5.out]; exact heap_old (by simp <;> omega) (heap_old (by simp <;> omega) (heap_new (by simp))))
  have V2 := hide (show w5.heap[w.heap.size + 1 + 1]? = some (.cells #[.string ⟨#[]⟩, .bool false, .bool false, .slice none 0 0, .int .i64 0] 31 : Obj) by rw [← hw5.out]; exact heap_old (by simp <;> omega) (heap_new (by simp)))
  have V3 := hide (show w5.heap[w.heap.size + 1 + 1 + 1]? = some (.cells #[.int .i64 0, .int .i64 0, .string ⟨#[]⟩, .int .i64 0, .int .i64 0] 33 : Obj) by rw [← hw5.out]; exact heap_new (by simp))
  rw [hw5.out]
  obtain ⟨_, _, _, _, _, _⟩ := five_cells V0.out
  obtain ⟨_, _, _, _, _⟩ := four_cells V1.out
  obtain ⟨d0, d1, d2, d3, d4, df⟩ := five_cells V2.out
  obtain ⟨e0, e1, e2, e3, e4, ef⟩ := five_cells V3.out
  have HO5 := hide (OwnL.below HS.out b5 (Nat.le_refl _))
  go_region
  go_wp2
  refine bodyPost_ret (v := .tuple #[.agg #[.string k, .bool false, .bool false, .slice A l.length c, .int .i64 (Pu.upF n)], .agg #[.int .i64 0, .int .i64 (Pu.upF n), .string ⟨#[]⟩, .int .i64 0, .int .i64 0]]) (by simp [results, Tryz.results55, go_sem, d0, d1, d2, d3, d4, e0, e1, e2, e3, e4]) rfl ?_
  rw [HN.out]
  refine ⟨_, rfl, ?_, ?_⟩
  · refine own_drew ?_
    iterate 10 refine OwnL.set' ?_ (by intro g hg; have := HFAR.out g hg; simp <;> omega) _
    exact HO5.out
  · refine Below.drew ?_
    iterate 10 refine below_set ?_ (by simp <;> omega) _
    exact b5
set_option maxHeartbeats 2000000 in
theorem l3Do_hear0t (k m key t : ByteArray) (r : Bool) (s : Value) (l : List Pu.CellD) (n : Int) (base : Nat) (w : World) (R : Pu.CoreD × Pu.ReplyD) (hs : OwnL w base 63 2 cellEn s l) (hbs : base ≤ w.heap.size) (hc : Pu.cellsB l = true) (hn0 : 0 ≤ n) (hGet : (m.toList == [71, 101, 116]) = false) (hPut : (m.toList == [80, 117, 116]) = false) (hTell : (m.toList == [84, 101, 108, 108]) = false) (hHear : (m.toList == [72, 101, 97, 114]) = true) (HN : Hid (R = (⟨k, false, false, l, Pu.upF n⟩, Pu.rp 0 (Pu.upF n)))) :
    Calls Tryz.prog 55 #[.agg #[.string k, .bool true, .bool false, s, .int .i64 n], .agg #[.string m, .string key, .int .i64 0, .string t], .bool r] w fun e w' => ∃ s', e = .returned (.tuple #[coreV R.1 s', replyV R.2]) ∧ OwnL w' base 63 2 cellEn s' R.1.cells ∧ Below w.heap.size w w' := by
  obtain ⟨A, c, rfl⟩ := hs.shape
  have HS := hide hs
  have hfar0 := fun g hg => (OwnL.lt hs (g := g) hg).2
  have HFAR := hide hfar0
  have HCC := hide hc
  clear hs hfar0 hc
  go_enter Tryz.func55, Tryz.ntmps55
  obtain ⟨w0, hw0⟩ : ∃ w0, Hid ((((w.alloc (.cells #[.string k, .bool true, .bool false, .slice A l.length c, .int .i64 n] 31 : Obj)).alloc (.cells #[.string m, .string key, .int .i64 0, .string t] 37 : Obj)).alloc (.cells #[.string ⟨#[]⟩, .bool false, .bool false, .slice none 0 0, .int .i64 0] 31 : Obj)).alloc (.cells #[.int .i64 0, .int .i64 0, .string ⟨#[]⟩, .int .i64 0, .int .i64 0] 33 : Obj) = w0) := ⟨_, rfl⟩
  have b0 : Below w.heap.size w w0 := by rw [← hw0.out]; exact below_alloc (below_alloc (below_alloc (below_alloc (Below.refl _ _) _) _) _) _
  have Y0 := hide (show w0.heap[w.heap.size]? = some (.cells #[.string k, .bool true, .bool false, .slice A l.length c, .int .i64 n] 31 : Obj) by rw [← hw0.out]; exact heap_old (by simp <;> omega) (heap_old (by simp <;> omega) (heap_old (by simp <;> omega) (heap_new (by simp)))))
  have Y1 := hide (show w0.heap[w.heap.size + 1]? = some (.cells #[.string m, .string key, .int .i64 0, .string t] 37 : Obj) by rw [← hw0.out]; exact heap_old (by simp <;> omega) (heap_old (by simp <;> omega) (heap_new (by simp))))
  have Y2 := hide (show w0.heap[w.heap.size + 1 + 1]? = some (.cells #[.string ⟨#[]⟩, .bool false, .bool false, .slice none 0 0, .int .i64 0] 31 : Obj) by rw [← hw0.out]; exact heap_old (by simp <;> omega) (heap_new (by simp)))
  have Y3 := hide (show w0.heap[w.heap.size + 1 + 1 + 1]? = some (.cells #[.int .i64 0, .int .i64 0, .string ⟨#[]⟩, .int .i64 0, .int .i64 0] 33 : Obj) by rw [← hw0.out]; exact heap_new (by simp))
  have hs0 : Hid (w0.heap.size = w.heap.size + 1 + 1 + 1 + 1) := by rw [← hw0.out, Hid]; simp
  go_wp2_with fail
  refine (l3Up_c n _ hn0).mono ?_; rintro e w1 ⟨rfl, rfl⟩
  go_wp2_with fail
  clear b0 Y0 Y1 Y2 Y3 hs0
  obtain ⟨w5, hw5⟩ : ∃ w5, Hid ((((w.alloc (.cells #[.string k, .bool false, .bool false, .slice A l.length c, .int .i64 (Pu.upF n)] 31 : Obj)).alloc (.cells #[.string m, .string key, .int .i64 0, .string t] 37 : Obj)).alloc (.cells #[.string ⟨#[]⟩, .bool false, .bool false, .slice none 0 0, .int .i64 0] 31 : Obj)).alloc (.cells #[.int .i64 0, .int .i64 0, .string ⟨#[]⟩, .int .i64 0, .int .i64 0] 33 : Obj) = w5) := ⟨_, rfl⟩
  have b5 : Below w.heap.size w w5 := by rw [← hw5.out]; exact below_alloc (below_alloc (below_alloc (below_alloc (Below.refl _ _) _) _) _) _
  have V0 := hide (show w5.heap[w.heap.size]? = some (.cells #[.string k, .bool false, .bool false, .slice A l.length c, .int .i64 (Pu.upF n)] 31 : Obj) by rw [← hw5.out]; exact heap_old (by simp <;> omega) (heap_old (by simp <;> omega) (heap_old (by simp <;> omega) (heap_new (by simp)))))
  have V1 := hide (show w5.heap[w.heap.size + 1]? = some (.cells #[.string m, .string key, .int .i64 0, .string t] 37 : Obj) by rw [← hw5.out]; exact heap_old (by simp <;> omega) (heap_old (by simp <;> omega) (heap_new (by simp))))
  have V2 := hide (show w5.heap[w.heap.size + 1 + 1]? = some (.cells #[.string ⟨#[]⟩, .bool false, .bool false, .slice none 0 0, .int .i64 0] 31 : Obj) by rw [← hw5.out]; exact heap_old (by simp <;> omega) (heap_new (by simp)))
  have V3 := hide (show w5.heap[w.heap.size + 1 + 1 + 1]? = some (.cells #[.int .i64 0, .int .i64 0, .string ⟨#[]⟩, .int .i64 0, .int .i64 0] 33 : Obj) by rw [← hw5.out]; exact heap_new (by simp))
  rw [hw5.out]
  obtain ⟨_, _, _, _, _, _⟩ := five_cells V0.out
  obtain ⟨_, _, _, _, _⟩ := four_cells V1.out
  obtain ⟨d0, d1, d2, d3, d4, df⟩ := five_cells V2.out
  obtain ⟨e0, e1, e2, e3, e4, ef⟩ := five_cells V3.out
  have HO5 := hide (OwnL.below HS.out b5 (Nat.le_refl _))
  go_region
  go_wp2
  refine bodyPost_ret (v := .tuple #[.agg #[.string k, .bool false, .bool false, .slice A l.length c, .int .i64 (Pu.upF n)], .agg #[.int .i64 0, .int .i64 (Pu.upF n), .string ⟨#[]⟩, .int .i64 0, .int .i64 0]]) (by simp [results, Tryz.results55, go_sem, d0, d1, d2, d3, d4, e0, e1, e2, e3, e4]) rfl ?_
  rw [HN.out]
  refine ⟨_, rfl, ?_, ?_⟩
  · refine own_drew ?_
    iterate 10 refine OwnL.set' ?_ (by intro g hg; have := HFAR.out g hg; simp <;> omega) _
    exact HO5.out
  · refine Below.drew ?_
    iterate 10 refine below_set ?_ (by simp <;> omega) _
    exact b5
set_option maxHeartbeats 2000000 in
theorem l3Do_hearf (k m key t : ByteArray) (v : Int) (r : Bool) (s : Value) (l : List Pu.CellD) (n : Int) (base : Nat) (w : World) (R : Pu.CoreD × Pu.ReplyD) (hs : OwnL w base 63 2 cellEn s l) (hbs : base ≤ w.heap.size) (hc : Pu.cellsB l = true) (hn0 : 0 ≤ n) (hGet : (m.toList == [71, 101, 116]) = false) (hPut : (m.toList == [80, 117, 116]) = false) (hTell : (m.toList == [84, 101, 108, 108]) = false) (hHear : (m.toList == [72, 101, 97, 114]) = true) (h1 : (v == 1) = false) (h0 : (v == 0) = false) (HN : Hid (R = (⟨k, false, false, l, Pu.upF n⟩, Pu.rp 0 (Pu.upF n)))) :
    Calls Tryz.prog 55 #[.agg #[.string k, .bool false, .bool false, s, .int .i64 n], .agg #[.string m, .string key, .int .i64 v, .string t], .bool r] w fun e w' => ∃ s', e = .returned (.tuple #[coreV R.1 s', replyV R.2]) ∧ OwnL w' base 63 2 cellEn s' R.1.cells ∧ Below w.heap.size w w' := by
  obtain ⟨A, c, rfl⟩ := hs.shape
  have HS := hide hs
  have hfar0 := fun g hg => (OwnL.lt hs (g := g) hg).2
  have HFAR := hide hfar0
  have HCC := hide hc
  clear hs hfar0 hc
  go_enter Tryz.func55, Tryz.ntmps55
  obtain ⟨w0, hw0⟩ : ∃ w0, Hid ((((w.alloc (.cells #[.string k, .bool false, .bool false, .slice A l.length c, .int .i64 n] 31 : Obj)).alloc (.cells #[.string m, .string key, .int .i64 v, .string t] 37 : Obj)).alloc (.cells #[.string ⟨#[]⟩, .bool false, .bool false, .slice none 0 0, .int .i64 0] 31 : Obj)).alloc (.cells #[.int .i64 0, .int .i64 0, .string ⟨#[]⟩, .int .i64 0, .int .i64 0] 33 : Obj) = w0) := ⟨_, rfl⟩
  have b0 : Below w.heap.size w w0 := by rw [← hw0.out]; exact below_alloc (below_alloc (below_alloc (below_alloc (Below.refl _ _) _) _) _) _
  have Y0 := hide (show w0.heap[w.heap.size]? = some (.cells #[.string k, .bool false, .bool false, .slice A l.length c, .int .i64 n] 31 : Obj) by rw [← hw0.out]; exact heap_old (by simp <;> omega) (heap_old (by simp <;> omega) (heap_old (by simp <;> omega) (heap_new (by simp)))))
  have Y1 := hide (show w0.heap[w.heap.size + 1]? = some (.cells #[.string m, .string key, .int .i64 v, .string t] 37 : Obj) by rw [← hw0.out]; exact heap_old (by simp <;> omega) (heap_old (by simp <;> omega) (heap_new (by simp))))
  have Y2 := hide (show w0.heap[w.heap.size + 1 + 1]? = some (.cells #[.string ⟨#[]⟩, .bool false, .bool false, .slice none 0 0, .int .i64 0] 31 : Obj) by rw [← hw0.out]; exact heap_old (by simp <;> omega) (heap_new (by simp)))
  have Y3 := hide (show w0.heap[w.heap.size + 1 + 1 + 1]? = some (.cells #[.int .i64 0, .int .i64 0, .string ⟨#[]⟩, .int .i64 0, .int .i64 0] 33 : Obj) by rw [← hw0.out]; exact heap_new (by simp))
  have hs0 : Hid (w0.heap.size = w.heap.size + 1 + 1 + 1 + 1) := by rw [← hw0.out, Hid]; simp
  go_wp2_with fail
  refine (l3Up_c n _ hn0).mono ?_; rintro e w1 ⟨rfl, rfl⟩
  go_wp2_with fail
  clear b0 Y0 Y1 Y2 Y3 hs0
  obtain ⟨w5, hw5⟩ : ∃ w5, Hid ((((w.alloc (.cells #[.string k, .bool false, .bool false, .slice A l.length c, .int .i64 (Pu.upF n)] 31 : Obj)).alloc (.cells #[.string m, .string key, .int .i64 v, .string t] 37 : Obj)).alloc (.cells #[.string ⟨#[]⟩, .bool false, .bool false, .slice none 0 0, .int .i64 0] 31 : Obj)).alloc (.cells #[.int .i64 0, .int .i64 0, .string ⟨#[]⟩, .int .i64 0, .int .i64 0] 33 : Obj) = w5) := ⟨_, rfl⟩
  have b5 : Below w.heap.size w w5 := by rw [← hw5.out]; exact below_alloc (below_alloc (below_alloc (below_alloc (Below.refl _ _) _) _) _) _
  have V0 := hide (show w5.heap[w.heap.size]? = some (.cells #[.string k, .bool false, .bool false, .slice A l.length c, .int .i64 (Pu.upF n)] 31 : Obj) by rw [← hw5.out]; exact heap_old (by simp <;> omega) (heap_old (by simp <;> omega) (heap_old (by simp <;> omega) (heap_new (by simp)))))
  have V1 := hide (show w5.heap[w.heap.size + 1]? = some (.cells #[.string m, .string key, .int .i64 v, .string t] 37 : Obj) by rw [← hw5.out]; exact heap_old (by simp <;> omega) (heap_old (by simp <;> omega) (heap_new (by simp))))
  have V2 := hide (show w5.heap[w.heap.size + 1 + 1]? = some (.cells #[.string ⟨#[]⟩, .bool false, .bool false, .slice none 0 0, .int .i64 0] 31 : Obj) by rw [← hw5.out]; exact heap_old (by simp <;> omega) (heap_new (by simp)))
  have V3 := hide (show w5.heap[w.heap.size + 1 + 1 + 1]? = some (.cells #[.int .i64 0, .int .i64 0, .string ⟨#[]⟩, .int .i64 0, .int .i64 0] 33 : Obj) by rw [← hw5.out]; exact heap_new (by simp))
  rw [hw5.out]
  obtain ⟨_, _, _, _, _, _⟩ := five_cells V0.out
  obtain ⟨_, _, _, _, _⟩ := four_cells V1.out
  obtain ⟨d0, d1, d2, d3, d4, df⟩ := five_cells V2.out
  obtain ⟨e0, e1, e2, e3, e4, ef⟩ := five_cells V3.out
  have HO5 := hide (OwnL.below HS.out b5 (Nat.le_refl _))
  go_region
  go_wp2
  refine bodyPost_ret (v := .tuple #[.agg #[.string k, .bool false, .bool false, .slice A l.length c, .int .i64 (Pu.upF n)], .agg #[.int .i64 0, .int .i64 (Pu.upF n), .string ⟨#[]⟩, .int .i64 0, .int .i64 0]]) (by simp [results, Tryz.results55, go_sem, d0, d1, d2, d3, d4, e0, e1, e2, e3, e4]) rfl ?_
  rw [HN.out]
  refine ⟨_, rfl, ?_, ?_⟩
  · refine own_drew ?_
    iterate 10 refine OwnL.set' ?_ (by intro g hg; have := HFAR.out g hg; simp <;> omega) _
    exact HO5.out
  · refine Below.drew ?_
    iterate 10 refine below_set ?_ (by simp <;> omega) _
    exact b5
set_option maxHeartbeats 2000000 in
theorem l3Do_heart (k m key t : ByteArray) (v : Int) (r : Bool) (s : Value) (l : List Pu.CellD) (n : Int) (base : Nat) (w : World) (R : Pu.CoreD × Pu.ReplyD) (hs : OwnL w base 63 2 cellEn s l) (hbs : base ≤ w.heap.size) (hc : Pu.cellsB l = true) (hn0 : 0 ≤ n) (hGet : (m.toList == [71, 101, 116]) = false) (hPut : (m.toList == [80, 117, 116]) = false) (hTell : (m.toList == [84, 101, 108, 108]) = false) (hHear : (m.toList == [72, 101, 97, 114]) = true) (h1 : (v == 1) = false) (h0 : (v == 0) = false) (HN : Hid (R = (⟨k, true, false, l, Pu.upF n⟩, Pu.rp 0 (Pu.upF n)))) :
    Calls Tryz.prog 55 #[.agg #[.string k, .bool true, .bool false, s, .int .i64 n], .agg #[.string m, .string key, .int .i64 v, .string t], .bool r] w fun e w' => ∃ s', e = .returned (.tuple #[coreV R.1 s', replyV R.2]) ∧ OwnL w' base 63 2 cellEn s' R.1.cells ∧ Below w.heap.size w w' := by
  obtain ⟨A, c, rfl⟩ := hs.shape
  have HS := hide hs
  have hfar0 := fun g hg => (OwnL.lt hs (g := g) hg).2
  have HFAR := hide hfar0
  have HCC := hide hc
  clear hs hfar0 hc
  go_enter Tryz.func55, Tryz.ntmps55
  obtain ⟨w0, hw0⟩ : ∃ w0, Hid ((((w.alloc (.cells #[.string k, .bool true, .bool false, .slice A l.length c, .int .i64 n] 31 : Obj)).alloc (.cells #[.string m, .string key, .int .i64 v, .string t] 37 : Obj)).alloc (.cells #[.string ⟨#[]⟩, .bool false, .bool false, .slice none 0 0, .int .i64 0] 31 : Obj)).alloc (.cells #[.int .i64 0, .int .i64 0, .string ⟨#[]⟩, .int .i64 0, .int .i64 0] 33 : Obj) = w0) := ⟨_, rfl⟩
  have b0 : Below w.heap.size w w0 := by rw [← hw0.out]; exact below_alloc (below_alloc (below_alloc (below_alloc (Below.refl _ _) _) _) _) _
  have Y0 := hide (show w0.heap[w.heap.size]? = some (.cells #[.string k, .bool true, .bool false, .slice A l.length c, .int .i64 n] 31 : Obj) by rw [← hw0.out]; exact heap_old (by simp <;> omega) (heap_old (by simp <;> omega) (heap_old (by simp <;> omega) (heap_new (by simp)))))
  have Y1 := hide (show w0.heap[w.heap.size + 1]? = some (.cells #[.string m, .string key, .int .i64 v, .string t] 37 : Obj) by rw [← hw0.out]; exact heap_old (by simp <;> omega) (heap_old (by simp <;> omega) (heap_new (by simp))))
  have Y2 := hide (show w0.heap[w.heap.size + 1 + 1]? = some (.cells #[.string ⟨#[]⟩, .bool false, .bool false, .slice none 0 0, .int .i64 0] 31 : Obj) by rw [← hw0.out]; exact heap_old (by simp <;> omega) (heap_new (by simp)))
  have Y3 := hide (show w0.heap[w.heap.size + 1 + 1 + 1]? = some (.cells #[.int .i64 0, .int .i64 0, .string ⟨#[]⟩, .int .i64 0, .int .i64 0] 33 : Obj) by rw [← hw0.out]; exact heap_new (by simp))
  have hs0 : Hid (w0.heap.size = w.heap.size + 1 + 1 + 1 + 1) := by rw [← hw0.out, Hid]; simp
  go_wp2_with fail
  refine (l3Up_c n _ hn0).mono ?_; rintro e w1 ⟨rfl, rfl⟩
  go_wp2_with fail
  clear b0 Y0 Y1 Y2 Y3 hs0
  obtain ⟨w5, hw5⟩ : ∃ w5, Hid ((((w.alloc (.cells #[.string k, .bool true, .bool false, .slice A l.length c, .int .i64 (Pu.upF n)] 31 : Obj)).alloc (.cells #[.string m, .string key, .int .i64 v, .string t] 37 : Obj)).alloc (.cells #[.string ⟨#[]⟩, .bool false, .bool false, .slice none 0 0, .int .i64 0] 31 : Obj)).alloc (.cells #[.int .i64 0, .int .i64 0, .string ⟨#[]⟩, .int .i64 0, .int .i64 0] 33 : Obj) = w5) := ⟨_, rfl⟩
  have b5 : Below w.heap.size w w5 := by rw [← hw5.out]; exact below_alloc (below_alloc (below_alloc (below_alloc (Below.refl _ _) _) _) _) _
  have V0 := hide (show w5.heap[w.heap.size]? = some (.cells #[.string k, .bool true, .bool false, .slice A l.length c, .int .i64 (Pu.upF n)] 31 : Obj) by rw [← hw5.out]; exact heap_old (by simp <;> omega) (heap_old (by simp <;> omega) (heap_old (by simp <;> omega) (heap_new (by simp)))))
  have V1 := hide (show w5.heap[w.heap.size + 1]? = some (.cells #[.string m, .string key, .int .i64 v, .string t] 37 : Obj) by rw [← hw5.out]; exact heap_old (by simp <;> omega) (heap_old (by simp <;> omega) (heap_new (by simp))))
  have V2 := hide (show w5.heap[w.heap.size + 1 + 1]? = some (.cells #[.string ⟨#[]⟩, .bool false, .bool false, .slice none 0 0, .int .i64 0] 31 : Obj) by rw [← hw5.out]; exact heap_old (by simp <;> omega) (heap_new (by simp)))
  have V3 := hide (show w5.heap[w.heap.size + 1 + 1 + 1]? = some (.cells #[.int .i64 0, .int .i64 0, .string ⟨#[]⟩, .int .i64 0, .int .i64 0] 33 : Obj) by rw [← hw5.out]; exact heap_new (by simp))
  rw [show (v != 0) = true by simp [bne, h0]]
  rw [hw5.out]
  obtain ⟨_, _, _, _, _, _⟩ := five_cells V0.out
  obtain ⟨_, _, _, _, _⟩ := four_cells V1.out
  obtain ⟨d0, d1, d2, d3, d4, df⟩ := five_cells V2.out
  obtain ⟨e0, e1, e2, e3, e4, ef⟩ := five_cells V3.out
  have HO5 := hide (OwnL.below HS.out b5 (Nat.le_refl _))
  go_region
  go_wp2
  refine bodyPost_ret (v := .tuple #[.agg #[.string k, .bool true, .bool false, .slice A l.length c, .int .i64 (Pu.upF n)], .agg #[.int .i64 0, .int .i64 (Pu.upF n), .string ⟨#[]⟩, .int .i64 0, .int .i64 0]]) (by simp [results, Tryz.results55, go_sem, d0, d1, d2, d3, d4, e0, e1, e2, e3, e4]) rfl ?_
  rw [HN.out]
  refine ⟨_, rfl, ?_, ?_⟩
  · refine own_drew ?_
    iterate 10 refine OwnL.set' ?_ (by intro g hg; have := HFAR.out g hg; simp <;> omega) _
    exact HO5.out
  · refine Below.drew ?_
    iterate 10 refine below_set ?_ (by simp <;> omega) _
    exact b5
set_option maxHeartbeats 2000000 in
theorem l3Do_save (k m key t : ByteArray) (v : Int) (o : Bool) (r : Bool) (s : Value) (l : List Pu.CellD) (n : Int) (base : Nat) (w : World) (R : Pu.CoreD × Pu.ReplyD) (hs : OwnL w base 63 2 cellEn s l) (hbs : base ≤ w.heap.size) (hc : Pu.cellsB l = true) (hn0 : 0 ≤ n) (hGet : (m.toList == [71, 101, 116]) = false) (hPut : (m.toList == [80, 117, 116]) = false) (hTell : (m.toList == [84, 101, 108, 108]) = false) (hHear : (m.toList == [72, 101, 97, 114]) = false) (hSave : (m.toList == [83, 97, 118, 101]) = true) (hwf : ∀ c ∈ l, CellD.wf c) (HN : Hid (R = (⟨k, o, false, l, n⟩, ⟨0, 0, Pu.cellsT l, 0, 0⟩))) :
    Calls Tryz.prog 55 #[.agg #[.string k, .bool o, .bool false, s, .int .i64 n], .agg #[.string m, .string key, .int .i64 v, .string t], .bool r] w fun e w' => ∃ s', e = .returned (.tuple #[coreV R.1 s', replyV R.2]) ∧ OwnL w' base 63 2 cellEn s' R.1.cells ∧ Below w.heap.size w w' := by
  obtain ⟨A, c, rfl⟩ := hs.shape
  have HS := hide hs
  have hfar0 := fun g hg => (OwnL.lt hs (g := g) hg).2
  have HFAR := hide hfar0
  have HCC := hide hc
  clear hs hfar0 hc
  go_enter Tryz.func55, Tryz.ntmps55
  obtain ⟨w0, hw0⟩ : ∃ w0, Hid ((((w.alloc (.cells #[.string k, .bool o, .bool false, .slice A l.length c, .int .i64 n] 31 : Obj)).alloc (.cells #[.string m, .string key, .int .i64 v, .string t] 37 : Obj)).alloc (.cells #[.string ⟨#[]⟩, .bool false, .bool false, .slice none 0 0, .int .i64 0] 31 : Obj)).alloc (.cells #[.int .i64 0, .int .i64 0, .string ⟨#[]⟩, .int .i64 0, .int .i64 0] 33 : Obj) = w0) := ⟨_, rfl⟩
  have b0 : Below w.heap.size w w0 := by rw [← hw0.out]; exact below_alloc (below_alloc (below_alloc (below_alloc (Below.refl _ _) _) _) _) _
  have Y0 := hide (show w0.heap[w.heap.size]? = some (.cells #[.string k, .bool o, .bool false, .slice A l.length c, .int .i64 n] 31 : Obj) by rw [← hw0.out]; exact heap_old (by simp <;> omega) (heap_old (by simp <;> omega) (heap_old (by simp <;> omega) (heap_new (by simp)))))
  have Y1 := hide (show w0.heap[w.heap.size + 1]? = some (.cells #[.string m, .string key, .int .i64 v, .string t] 37 : Obj) by rw [← hw0.out]; exact heap_old (by simp <;> omega) (heap_old (by simp <;> omega) (heap_new (by simp))))
  have Y2 := hide (show w0.heap[w.heap.size + 1 + 1]? = some (.cells #[.string ⟨#[]⟩, .bool false, .bool false, .slice none 0 0, .int .i64 0] 31 : Obj) by rw [← hw0.out]; exact heap_old (by simp <;> omega) (heap_new (by simp)))
  have Y3 := hide (show w0.heap[w.heap.size + 1 + 1 + 1]? = some (.cells #[.int .i64 0, .int .i64 0, .string ⟨#[]⟩, .int .i64 0, .int .i64 0] 33 : Obj) by rw [← hw0.out]; exact heap_new (by simp))
  have hs0 : Hid (w0.heap.size = w.heap.size + 1 + 1 + 1 + 1) := by rw [← hw0.out, Hid]; simp
  have HWF := hide hwf
  clear hwf
  obtain ⟨T, HT⟩ : ∃ T, Hid (Pu.cellsT l = T) := ⟨_, rfl⟩
  rw [HT.out] at HN
  go_wp2_with fail
  rw [hw0.out]
  obtain ⟨_, _, _, _, _, _⟩ := five_cells Y0.out
  obtain ⟨_, _, _, _, _⟩ := four_cells Y1.out
  obtain ⟨d0, d1, d2, d3, d4, df⟩ := five_cells Y2.out
  obtain ⟨e0, e1, e2, e3, e4, ef⟩ := five_cells Y3.out
  have HO0 := hide (OwnL.below HS.out b0 (Nat.le_refl _))
  have HRD := hide (show RdL w0 2 cellEn _ l from HO0.out.rd (fun _ => rfl))
  have hz0 : w.heap.size + 1 + 1 + 1 < w0.heap.size := (Array.getElem?_eq_some_iff.1 Y3.out).1
  have hz1 : w.heap.size < w0.heap.size := by omega
  have hna2 : ¬ w.heap.size = w.heap.size + 1 + 1 := by omega
  have hnb2 : ¬ w.heap.size + 1 + 1 = w.heap.size := by omega
  have hna3 : ¬ w.heap.size = w.heap.size + 1 + 1 + 1 := by omega
  have hnb3 : ¬ w.heap.size + 1 + 1 + 1 = w.heap.size := by omega
  go_region_held3 (fun w' => w'.cell? ⟨w.heap.size, 0, none⟩ = some (.string k) ∧ w'.cell? ⟨w.heap.size, 1, none⟩ = some (.bool o) ∧ w'.cell? ⟨w.heap.size, 2, none⟩ = some (.bool false) ∧ w'.cell? ⟨w.heap.size, 3, none⟩ = some (.slice A l.length c) ∧ w'.cell? ⟨w.heap.size, 4, none⟩ = some (.int .i64 n)) (go_keep)
    (first
      | (go_at_call 88; refine (sFormatCells_c _ l _ ⟨(by first | exact HRD.out | exact RdL.below HRD.out (Below.refl _ _).drew (Nat.le_refl _)), HWF.out⟩).mono ?_; rintro e w6 ⟨rfl, b6⟩;
             have KX : ∀ k : Nat, w6.cell? ⟨w.heap.size, k, none⟩ = _ := fun k => World.cell?_of_block (b6.block w.heap.size hz1);
             have z2 := hide (show w6.heap[w.heap.size + 1 + 1]? = some (.cells #[.string ⟨#[]⟩, .bool false, .bool false, .slice none 0 0, .int .i64 0] 31 : Obj) from (b6.block (w.heap.size + 1 + 1) (by show _ < w0.heap.size; omega)).trans Y2.out);
             have z3 := hide (show w6.heap[w.heap.size + 1 + 1 + 1]? = some (.cells #[.int .i64 0, .int .i64 0, .string ⟨#[]⟩, .int .i64 0, .int .i64 0] 33 : Obj) from (b6.block (w.heap.size + 1 + 1 + 1) (by show _ < w0.heap.size; omega)).trans Y3.out);
             obtain ⟨_, _, _, _, _, _⟩ := five_cells z2.out;
             obtain ⟨_, _, _, _, _, _⟩ := five_cells z3.out))
  have B6 : Below w.heap.size w w6 := below_then b0 (show Below w0.heap.size w0 w6 from ⟨b6.os, b6.tape, b6.output, b6.size, b6.block⟩)
  have O6 := hide (OwnL.below HO0.out (show Below w0.heap.size w0 w6 from ⟨b6.os, b6.tape, b6.output, b6.size, b6.block⟩) (Nat.le_refl _))
  obtain ⟨d0, d1, d2, d3, d4, df⟩ := five_cells z2.out
  obtain ⟨e0, e1, e2, e3, e4, ef⟩ := five_cells z3.out
  rw [HT.out]
  go_wp2
  refine bodyPost_ret (v := .tuple #[.agg #[.string k, .bool o, .bool false, .slice A l.length c, .int .i64 n], .agg #[.int .i64 0, .int .i64 0, .string T, .int .i64 0, .int .i64 0]]) (by simp [results, Tryz.results55, go_sem, d0, d1, d2, d3, d4, e0, e1, e2, e3, e4]) rfl ?_
  rw [HN.out]
  refine ⟨_, rfl, ?_, ?_⟩
  · skip
    iterate 10 refine OwnL.set' ?_ (by intro g hg; have := HFAR.out g hg; simp <;> omega) _
    exact O6.out
  · skip
    iterate 10 refine below_set ?_ (by simp <;> omega) _
    exact B6
set_option maxHeartbeats 2000000 in
theorem l3Do_loadf (k m key t : ByteArray) (v : Int) (o : Bool) (r : Bool) (s : Value) (l : List Pu.CellD) (n : Int) (base : Nat) (w : World) (R : Pu.CoreD × Pu.ReplyD) (hs : OwnL w base 63 2 cellEn s l) (hbs : base ≤ w.heap.size) (hc : Pu.cellsB l = true) (hn0 : 0 ≤ n) (hGet : (m.toList == [71, 101, 116]) = false) (hPut : (m.toList == [80, 117, 116]) = false) (hTell : (m.toList == [84, 101, 108, 108]) = false) (hHear : (m.toList == [72, 101, 97, 114]) = false) (hSave : (m.toList == [83, 97, 118, 101]) = false) (hLoad : (m.toList == [76, 111, 97, 100]) = true) (ht : t.size ≤ 1048576) (hok : Pu.pcOk t = false) (HN : Hid (R = (⟨k, o, false, l, n⟩, Pu.rp 6 0))) :
    Calls Tryz.prog 55 #[.agg #[.string k, .bool o, .bool false, s, .int .i64 n], .agg #[.string m, .string key, .int .i64 v, .string t], .bool r] w fun e w' => ∃ s', e = .returned (.tuple #[coreV R.1 s', replyV R.2]) ∧ OwnL w' base 63 2 cellEn s' R.1.cells ∧ Below w.heap.size w w' := by
  obtain ⟨A, c, rfl⟩ := hs.shape
  have HS := hide hs
  have hfar0 := fun g hg => (OwnL.lt hs (g := g) hg).2
  have HFAR := hide hfar0
  have HCC := hide hc
  clear hs hfar0 hc
  go_enter Tryz.func55, Tryz.ntmps55
  obtain ⟨w0, hw0⟩ : ∃ w0, Hid ((((w.alloc (.cells #[.string k, .bool o, .bool false, .slice A l.length c, .int .i64 n] 31 : Obj)).alloc (.cells #[.string m, .string key, .int .i64 v, .string t] 37 : Obj)).alloc (.cells #[.string ⟨#[]⟩, .bool false, .bool false, .slice none 0 0, .int .i64 0] 31 : Obj)).alloc (.cells #[.int .i64 0, .int .i64 0, .string ⟨#[]⟩, .int .i64 0, .int .i64 0] 33 : Obj) = w0) := ⟨_, rfl⟩
  have b0 : Below w.heap.size w w0 := by rw [← hw0.out]; exact below_alloc (below_alloc (below_alloc (below_alloc (Below.refl _ _) _) _) _) _
  have Y0 := hide (show w0.heap[w.heap.size]? = some (.cells #[.string k, .bool o, .bool false, .slice A l.length c, .int .i64 n] 31 : Obj) by rw [← hw0.out]; exact heap_old (by simp <;> omega) (heap_old (by simp <;> omega) (heap_old (by simp <;> omega) (heap_new (by simp)))))
  have Y1 := hide (show w0.heap[w.heap.size + 1]? = some (.cells #[.string m, .string key, .int .i64 v, .string t] 37 : Obj) by rw [← hw0.out]; exact heap_old (by simp <;> omega) (heap_old (by simp <;> omega) (heap_new (by simp))))
  have Y2 := hide (show w0.heap[w.heap.size + 1 + 1]? = some (.cells #[.string ⟨#[]⟩, .bool false, .bool false, .slice none 0 0, .int .i64 0] 31 : Obj) by rw [← hw0.out]; exact heap_old (by simp <;> omega) (heap_new (by simp)))
  have Y3 := hide (show w0.heap[w.heap.size + 1 + 1 + 1]? = some (.cells #[.int .i64 0, .int .i64 0, .string ⟨#[]⟩, .int .i64 0, .int .i64 0] 33 : Obj) by rw [← hw0.out]; exact heap_new (by simp))
  have hs0 : Hid (w0.heap.size = w.heap.size + 1 + 1 + 1 + 1) := by rw [← hw0.out, Hid]; simp
  go_wp2_with fail
  rw [hw0.out]
  refine (sParseCells_c t _ ht).mono ?_; rintro e w1 ⟨v1, rfl, o1, b1⟩
  rw [hok]
  have B1 := below_then b0 b1
  have X0 := hide (row_on b1 Y0.out)
  have X1 := hide (row_on b1 Y1.out)
  have X2 := hide (row_on b1 Y2.out)
  have X3 := hide (row_on b1 Y3.out)
  have hz1 : w.heap.size + 1 + 1 + 1 < w1.heap.size := (Array.getElem?_eq_some_iff.1 X3.out).1
  have hz0 := hs0.out
  have HO1 := hide (OwnL.below HS.out B1 (Nat.le_refl _))
  clear b1 o1
  obtain ⟨_, _, _, _, _, _⟩ := five_cells X0.out
  obtain ⟨_, _, _, _, _⟩ := four_cells X1.out
  obtain ⟨d0, d1, d2, d3, d4, df⟩ := five_cells X2.out
  obtain ⟨e0, e1, e2, e3, e4, ef⟩ := five_cells X3.out
  go_wp2
  refine bodyPost_ret (v := .tuple #[.agg #[.string k, .bool o, .bool false, .slice A l.length c, .int .i64 n], .agg #[.int .i64 6, .int .i64 0, .string ⟨#[]⟩, .int .i64 0, .int .i64 0]]) (by simp [results, Tryz.results55, go_sem, d0, d1, d2, d3, d4, e0, e1, e2, e3, e4]) rfl ?_
  rw [HN.out]
  refine ⟨_, rfl, ?_, ?_⟩
  · skip
    iterate 10 refine OwnL.set' ?_ (by intro g hg; have := HFAR.out g hg; simp <;> omega) _
    exact HO1.out
  · skip
    iterate 10 refine below_set ?_ (by simp <;> omega) _
    exact B1
set_option maxHeartbeats 2000000 in
theorem l3Do_loadt (k m key t : ByteArray) (v : Int) (o : Bool) (r : Bool) (s : Value) (l : List Pu.CellD) (n : Int) (base : Nat) (w : World) (R : Pu.CoreD × Pu.ReplyD) (hs : OwnL w base 63 2 cellEn s l) (hbs : base ≤ w.heap.size) (hc : Pu.cellsB l = true) (hn0 : 0 ≤ n) (hGet : (m.toList == [71, 101, 116]) = false) (hPut : (m.toList == [80, 117, 116]) = false) (hTell : (m.toList == [84, 101, 108, 108]) = false) (hHear : (m.toList == [72, 101, 97, 114]) = false) (hSave : (m.toList == [83, 97, 118, 101]) = false) (hLoad : (m.toList == [76, 111, 97, 100]) = true) (ht : t.size ≤ 1048576) (hok : Pu.pcOk t = true) (HN : Hid (R = (⟨k, o, false, Pu.pcL t, n⟩, Pu.rp 0 (Pu.pcL t).length))) :
    Calls Tryz.prog 55 #[.agg #[.string k, .bool o, .bool false, s, .int .i64 n], .agg #[.string m, .string key, .int .i64 v, .string t], .bool r] w fun e w' => ∃ s', e = .returned (.tuple #[coreV R.1 s', replyV R.2]) ∧ OwnL w' base 63 2 cellEn s' R.1.cells ∧ Below w.heap.size w w' := by
  obtain ⟨A, c, rfl⟩ := hs.shape
  have HS := hide hs
  have hfar0 := fun g hg => (OwnL.lt hs (g := g) hg).2
  have HFAR := hide hfar0
  have HCC := hide hc
  clear hs hfar0 hc
  go_enter Tryz.func55, Tryz.ntmps55
  obtain ⟨w0, hw0⟩ : ∃ w0, Hid ((((w.alloc (.cells #[.string k, .bool o, .bool false, .slice A l.length c, .int .i64 n] 31 : Obj)).alloc (.cells #[.string m, .string key, .int .i64 v, .string t] 37 : Obj)).alloc (.cells #[.string ⟨#[]⟩, .bool false, .bool false, .slice none 0 0, .int .i64 0] 31 : Obj)).alloc (.cells #[.int .i64 0, .int .i64 0, .string ⟨#[]⟩, .int .i64 0, .int .i64 0] 33 : Obj) = w0) := ⟨_, rfl⟩
  have b0 : Below w.heap.size w w0 := by rw [← hw0.out]; exact below_alloc (below_alloc (below_alloc (below_alloc (Below.refl _ _) _) _) _) _
  have Y0 := hide (show w0.heap[w.heap.size]? = some (.cells #[.string k, .bool o, .bool false, .slice A l.length c, .int .i64 n] 31 : Obj) by rw [← hw0.out]; exact heap_old (by simp <;> omega) (heap_old (by simp <;> omega) (heap_old (by simp <;> omega) (heap_new (by simp)))))
  have Y1 := hide (show w0.heap[w.heap.size + 1]? = some (.cells #[.string m, .string key, .int .i64 v, .string t] 37 : Obj) by rw [← hw0.out]; exact heap_old (by simp <;> omega) (heap_old (by simp <;> omega) (heap_new (by simp))))
  have Y2 := hide (show w0.heap[w.heap.size + 1 + 1]? = some (.cells #[.string ⟨#[]⟩, .bool false, .bool false, .slice none 0 0, .int .i64 0] 31 : Obj) by rw [← hw0.out]; exact heap_old (by simp <;> omega) (heap_new (by simp)))
  have Y3 := hide (show w0.heap[w.heap.size + 1 + 1 + 1]? = some (.cells #[.int .i64 0, .int .i64 0, .string ⟨#[]⟩, .int .i64 0, .int .i64 0] 33 : Obj) by rw [← hw0.out]; exact heap_new (by simp))
  have hs0 : Hid (w0.heap.size = w.heap.size + 1 + 1 + 1 + 1) := by rw [← hw0.out, Hid]; simp
  obtain ⟨L, HL⟩ : ∃ L, Hid (Pu.pcL t = L) := ⟨_, rfl⟩
  rw [HL.out] at HN
  go_wp2_with fail
  rw [hw0.out]
  refine (sParseCells_c t _ ht).mono ?_; rintro e w1 ⟨v1, rfl, o1, b1⟩
  rw [hok]
  have B1 := below_then b0 b1
  have X0 := hide (row_on b1 Y0.out)
  have X1 := hide (row_on b1 Y1.out)
  have X2 := hide (row_on b1 Y2.out)
  have X3 := hide (row_on b1 Y3.out)
  have hz1 : w.heap.size + 1 + 1 + 1 < w1.heap.size := (Array.getElem?_eq_some_iff.1 X3.out).1
  have hz0 := hs0.out
  rw [HL.out] at o1
  obtain ⟨A1, c1, rfl⟩ := o1.shape
  have HF1 := hide (fun g hg => (OwnL.lt o1 (g := g) hg).1)
  have HO1 := hide o1
  clear b1 o1
  obtain ⟨_, _, _, _, _, _⟩ := five_cells X0.out
  obtain ⟨_, _, _, _, _⟩ := four_cells X1.out
  obtain ⟨d0, d1, d2, d3, d4, df⟩ := five_cells X2.out
  obtain ⟨e0, e1, e2, e3, e4, ef⟩ := five_cells X3.out
  go_wp2
  refine bodyPost_ret (v := .tuple #[.agg #[.string k, .bool o, .bool false, .slice A1 L.length c1, .int .i64 n], .agg #[.int .i64 0, .int .i64 L.length, .string ⟨#[]⟩, .int .i64 0, .int .i64 0]]) (by simp [results, Tryz.results55, go_sem, d0, d1, d2, d3, d4, e0, e1, e2, e3, e4]) rfl ?_
  rw [HN.out]
  refine ⟨_, rfl, ?_, ?_⟩
  · skip
    iterate 11 refine OwnL.set' ?_ (by intro g hg; have := HF1.out g hg; simp <;> omega) _
    exact HO1.out.mono (by omega)
  · skip
    iterate 11 refine below_set ?_ (by simp <;> omega) _
    exact B1
set_option maxHeartbeats 2000000 in
theorem l3Do_get (k m key t : ByteArray) (v : Int) (o : Bool) (r : Bool) (s : Value) (l : List Pu.CellD) (n : Int) (base : Nat) (w : World) (R : Pu.CoreD × Pu.ReplyD) (hs : OwnL w base 63 2 cellEn s l) (hbs : base ≤ w.heap.size) (hc : Pu.cellsB l = true) (hn0 : 0 ≤ n) (HRR : Hid (Pu.hasB (Pu.faceK ⟨k, o, false, l, n⟩) 0 = r)) (hGet : (m.toList == [71, 101, 116]) = true) (HN : Hid (R = Pu.keepF true ⟨k, o, false, l, n⟩ ⟨m, key, v, t⟩)) :
    Calls Tryz.prog 55 #[.agg #[.string k, .bool o, .bool false, s, .int .i64 n], .agg #[.string m, .string key, .int .i64 v, .string t], .bool r] w fun e w' => ∃ s', e = .returned (.tuple #[coreV R.1 s', replyV R.2]) ∧ OwnL w' base 63 2 cellEn s' R.1.cells ∧ Below w.heap.size w w' := by
  obtain ⟨A, c, rfl⟩ := hs.shape
  have HS := hide hs
  have hfar0 := fun g hg => (OwnL.lt hs (g := g) hg).2
  have HFAR := hide hfar0
  have HCC := hide hc
  clear hs hfar0 hc
  go_enter Tryz.func55, Tryz.ntmps55
  obtain ⟨w0, hw0⟩ : ∃ w0, Hid ((((w.alloc (.cells #[.string k, .bool o, .bool false, .slice A l.length c, .int .i64 n] 31 : Obj)).alloc (.cells #[.string m, .string key, .int .i64 v, .string t] 37 : Obj)).alloc (.cells #[.string ⟨#[]⟩, .bool false, .bool false, .slice none 0 0, .int .i64 0] 31 : Obj)).alloc (.cells #[.int .i64 0, .int .i64 0, .string ⟨#[]⟩, .int .i64 0, .int .i64 0] 33 : Obj) = w0) := ⟨_, rfl⟩
  have b0 : Below w.heap.size w w0 := by rw [← hw0.out]; exact below_alloc (below_alloc (below_alloc (below_alloc (Below.refl _ _) _) _) _) _
  have Y0 := hide (show w0.heap[w.heap.size]? = some (.cells #[.string k, .bool o, .bool false, .slice A l.length c, .int .i64 n] 31 : Obj) by rw [← hw0.out]; exact heap_old (by simp <;> omega) (heap_old (by simp <;> omega) (heap_old (by simp <;> omega) (heap_new (by simp)))))
  have Y1 := hide (show w0.heap[w.heap.size + 1]? = some (.cells #[.string m, .string key, .int .i64 v, .string t] 37 : Obj) by rw [← hw0.out]; exact heap_old (by simp <;> omega) (heap_old (by simp <;> omega) (heap_new (by simp))))
  have Y2 := hide (show w0.heap[w.heap.size + 1 + 1]? = some (.cells #[.string ⟨#[]⟩, .bool false, .bool false, .slice none 0 0, .int .i64 0] 31 : Obj) by rw [← hw0.out]; exact heap_old (by simp <;> omega) (heap_new (by simp)))
  have Y3 := hide (show w0.heap[w.heap.size + 1 + 1 + 1]? = some (.cells #[.int .i64 0, .int .i64 0, .string ⟨#[]⟩, .int .i64 0, .int .i64 0] 33 : Obj) by rw [← hw0.out]; exact heap_new (by simp))
  have hs0 : Hid (w0.heap.size = w.heap.size + 1 + 1 + 1 + 1) := by rw [← hw0.out, Hid]; simp
  go_wp2_with fail
  rw [hw0.out]
  have HO0 := hide (OwnL.below HS.out b0 (Nat.le_refl _))
  have hl0 : base ≤ w0.heap.size := Nat.le_trans hbs b0.size
  obtain ⟨_, _, _, _, _, _⟩ := five_cells Y0.out
  obtain ⟨_, _, _, _, _⟩ := four_cells Y1.out
  obtain ⟨d0, d1, d2, d3, d4, df⟩ := five_cells Y2.out
  obtain ⟨e0, e1, e2, e3, e4, ef⟩ := five_cells Y3.out
  go_wp2_with fail
  refine (l3Keep_c k m key t v o false r _ l n base _ HO0.out hl0 HCC.out hn0 HRR.out true hGet R (by rw [Hid, HN.out])).mono ?_; rintro e w1 ⟨s1, he, o1, b1⟩
  obtain ⟨⟨k1, o1b, b1b, l1, n1⟩, ⟨c1, v1, t1, wa1, h1⟩⟩ := R
  subst he
  obtain ⟨A1, cc1, rfl⟩ := OwnL.shape o1
  unfold coreV replyV
  dsimp only at o1 ⊢
  have B1 := below_then b0 b1
  have X0 := hide (row_on b1 Y0.out)
  have X1 := hide (row_on b1 Y1.out)
  have X2 := hide (row_on b1 Y2.out)
  have X3 := hide (row_on b1 Y3.out)
  have hz1 : w.heap.size + 1 + 1 + 1 < w1.heap.size := (Array.getElem?_eq_some_iff.1 X3.out).1
  have hz0 := hs0.out
  have HFX := hide (fun g hg => And.intro (own_ne o1 X2.out (by decide) g hg) (own_ne o1 X3.out (by decide) g hg))
  have HO1 := hide o1
  clear o1
  obtain ⟨_, _, _, _, _, _⟩ := five_cells X0.out
  obtain ⟨_, _, _, _, _⟩ := four_cells X1.out
  obtain ⟨d0, d1, d2, d3, d4, df⟩ := five_cells X2.out
  obtain ⟨e0, e1, e2, e3, e4, ef⟩ := five_cells X3.out
  go_wp2
  refine bodyPost_ret (v := .tuple #[.agg #[.string k1, .bool o1b, .bool b1b, .slice A1 l1.length cc1, .int .i64 n1], .agg #[.int .i64 c1, .int .i64 v1, .string t1, .int .i64 wa1, .int .i64 h1]]) (by simp [results, Tryz.results55, go_sem, d0, d1, d2, d3, d4, e0, e1, e2, e3, e4]) rfl ?_
  refine ⟨_, rfl, ?_, ?_⟩
  · iterate 10 refine OwnL.set' ?_ (by intro g hg; have := HFX.out g hg; simp <;> omega) _
    exact HO1.out
  · iterate 10 refine below_set ?_ (by simp <;> omega) _
    exact B1
set_option maxHeartbeats 2000000 in
theorem l3Do_put (k m key t : ByteArray) (v : Int) (o : Bool) (r : Bool) (s : Value) (l : List Pu.CellD) (n : Int) (base : Nat) (w : World) (R : Pu.CoreD × Pu.ReplyD) (hs : OwnL w base 63 2 cellEn s l) (hbs : base ≤ w.heap.size) (hc : Pu.cellsB l = true) (hn0 : 0 ≤ n) (HRR : Hid (Pu.hasB (Pu.faceK ⟨k, o, false, l, n⟩) 0 = r)) (hGet : (m.toList == [71, 101, 116]) = false) (hPut : (m.toList == [80, 117, 116]) = true) (HN : Hid (R = Pu.keepF false ⟨k, o, false, l, n⟩ ⟨m, key, v, t⟩)) :
    Calls Tryz.prog 55 #[.agg #[.string k, .bool o, .bool false, s, .int .i64 n], .agg #[.string m, .string key, .int .i64 v, .string t], .bool r] w fun e w' => ∃ s', e = .returned (.tuple #[coreV R.1 s', replyV R.2]) ∧ OwnL w' base 63 2 cellEn s' R.1.cells ∧ Below w.heap.size w w' := by
  obtain ⟨A, c, rfl⟩ := hs.shape
  have HS := hide hs
  have hfar0 := fun g hg => (OwnL.lt hs (g := g) hg).2
  have HFAR := hide hfar0
  have HCC := hide hc
  clear hs hfar0 hc
  go_enter Tryz.func55, Tryz.ntmps55
  obtain ⟨w0, hw0⟩ : ∃ w0, Hid ((((w.alloc (.cells #[.string k, .bool o, .bool false, .slice A l.length c, .int .i64 n] 31 : Obj)).alloc (.cells #[.string m, .string key, .int .i64 v, .string t] 37 : Obj)).alloc (.cells #[.string ⟨#[]⟩, .bool false, .bool false, .slice none 0 0, .int .i64 0] 31 : Obj)).alloc (.cells #[.int .i64 0, .int .i64 0, .string ⟨#[]⟩, .int .i64 0, .int .i64 0] 33 : Obj) = w0) := ⟨_, rfl⟩
  have b0 : Below w.heap.size w w0 := by rw [← hw0.out]; exact below_alloc (below_alloc (below_alloc (below_alloc (Below.refl _ _) _) _) _) _
  have Y0 := hide (show w0.heap[w.heap.size]? = some (.cells #[.string k, .bool o, .bool false, .slice A l.length c, .int .i64 n] 31 : Obj) by rw [← hw0.out]; exact heap_old (by simp <;> omega) (heap_old (by simp <;> omega) (heap_old (by simp <;> omega) (heap_new (by simp)))))
  have Y1 := hide (show w0.heap[w.heap.size + 1]? = some (.cells #[.string m, .string key, .int .i64 v, .string t] 37 : Obj) by rw [← hw0.out]; exact heap_old (by simp <;> omega) (heap_old (by simp <;> omega) (heap_new (by simp))))
  have Y2 := hide (show w0.heap[w.heap.size + 1 + 1]? = some (.cells #[.string ⟨#[]⟩, .bool false, .bool false, .slice none 0 0, .int .i64 0] 31 : Obj) by rw [← hw0.out]; exact heap_old (by simp <;> omega) (heap_new (by simp)))
  have Y3 := hide (show w0.heap[w.heap.size + 1 + 1 + 1]? = some (.cells #[.int .i64 0, .int .i64 0, .string ⟨#[]⟩, .int .i64 0, .int .i64 0] 33 : Obj) by rw [← hw0.out]; exact heap_new (by simp))
  have hs0 : Hid (w0.heap.size = w.heap.size + 1 + 1 + 1 + 1) := by rw [← hw0.out, Hid]; simp
  go_wp2_with fail
  rw [hw0.out]
  have HO0 := hide (OwnL.below HS.out b0 (Nat.le_refl _))
  have hl0 : base ≤ w0.heap.size := Nat.le_trans hbs b0.size
  obtain ⟨_, _, _, _, _, _⟩ := five_cells Y0.out
  obtain ⟨_, _, _, _, _⟩ := four_cells Y1.out
  obtain ⟨d0, d1, d2, d3, d4, df⟩ := five_cells Y2.out
  obtain ⟨e0, e1, e2, e3, e4, ef⟩ := five_cells Y3.out
  go_wp2_with fail
  refine (l3Keep_c k m key t v o false r _ l n base _ HO0.out hl0 HCC.out hn0 HRR.out false hGet R (by rw [Hid, HN.out])).mono ?_; rintro e w1 ⟨s1, he, o1, b1⟩
  obtain ⟨⟨k1, o1b, b1b, l1, n1⟩, ⟨c1, v1, t1, wa1, h1⟩⟩ := R
  subst he
  obtain ⟨A1, cc1, rfl⟩ := OwnL.shape o1
  unfold coreV replyV
  dsimp only at o1 ⊢
  have B1 := below_then b0 b1
  have X0 := hide (row_on b1 Y0.out)
  have X1 := hide (row_on b1 Y1.out)
  have X2 := hide (row_on b1 Y2.out)
  have X3 := hide (row_on b1 Y3.out)
  have hz1 : w.heap.size + 1 + 1 + 1 < w1.heap.size := (Array.getElem?_eq_some_iff.1 X3.out).1
  have hz0 := hs0.out
  have HFX := hide (fun g hg => And.intro (own_ne o1 X2.out (by decide) g hg) (own_ne o1 X3.out (by decide) g hg))
  have HO1 := hide o1
  clear o1
  obtain ⟨_, _, _, _, _, _⟩ := five_cells X0.out
  obtain ⟨_, _, _, _, _⟩ := four_cells X1.out
  obtain ⟨d0, d1, d2, d3, d4, df⟩ := five_cells X2.out
  obtain ⟨e0, e1, e2, e3, e4, ef⟩ := five_cells X3.out
  go_wp2
  refine bodyPost_ret (v := .tuple #[.agg #[.string k1, .bool o1b, .bool b1b, .slice A1 l1.length cc1, .int .i64 n1], .agg #[.int .i64 c1, .int .i64 v1, .string t1, .int .i64 wa1, .int .i64 h1]]) (by simp [results, Tryz.results55, go_sem, d0, d1, d2, d3, d4, e0, e1, e2, e3, e4]) rfl ?_
  refine ⟨_, rfl, ?_, ?_⟩
  · iterate 10 refine OwnL.set' ?_ (by intro g hg; have := HFX.out g hg; simp <;> omega) _
    exact HO1.out
  · iterate 10 refine below_set ?_ (by simp <;> omega) _
    exact B1
set_option maxHeartbeats 2000000 in
theorem l3Do_start (k m key t : ByteArray) (v : Int) (o : Bool) (r : Bool) (s : Value) (l : List Pu.CellD) (n : Int) (base : Nat) (w : World) (R : Pu.CoreD × Pu.ReplyD) (hs : OwnL w base 63 2 cellEn s l) (hbs : base ≤ w.heap.size) (hc : Pu.cellsB l = true) (hn0 : 0 ≤ n) (hGet : (m.toList == [71, 101, 116]) = false) (hPut : (m.toList == [80, 117, 116]) = false) (hTell : (m.toList == [84, 101, 108, 108]) = false) (hHear : (m.toList == [72, 101, 97, 114]) = false) (hSave : (m.toList == [83, 97, 118, 101]) = false) (hLoad : (m.toList == [76, 111, 97, 100]) = false) (hHeal : (m.toList == [72, 101, 97, 108]) = false) (hStop : (m.toList == [83, 116, 111, 112]) = false) (HN : Hid (R = Pu.runF false false ⟨k, o, false, l, n⟩)) :
    Calls Tryz.prog 55 #[.agg #[.string k, .bool o, .bool false, s, .int .i64 n], .agg #[.string m, .string key, .int .i64 v, .string t], .bool r] w fun e w' => ∃ s', e = .returned (.tuple #[coreV R.1 s', replyV R.2]) ∧ OwnL w' base 63 2 cellEn s' R.1.cells ∧ Below w.heap.size w w' := by
  obtain ⟨A, c, rfl⟩ := hs.shape
  have HS := hide hs
  have hfar0 := fun g hg => (OwnL.lt hs (g := g) hg).2
  have HFAR := hide hfar0
  have HCC := hide hc
  clear hs hfar0 hc
  go_enter Tryz.func55, Tryz.ntmps55
  obtain ⟨w0, hw0⟩ : ∃ w0, Hid ((((w.alloc (.cells #[.string k, .bool o, .bool false, .slice A l.length c, .int .i64 n] 31 : Obj)).alloc (.cells #[.string m, .string key, .int .i64 v, .string t] 37 : Obj)).alloc (.cells #[.string ⟨#[]⟩, .bool false, .bool false, .slice none 0 0, .int .i64 0] 31 : Obj)).alloc (.cells #[.int .i64 0, .int .i64 0, .string ⟨#[]⟩, .int .i64 0, .int .i64 0] 33 : Obj) = w0) := ⟨_, rfl⟩
  have b0 : Below w.heap.size w w0 := by rw [← hw0.out]; exact below_alloc (below_alloc (below_alloc (below_alloc (Below.refl _ _) _) _) _) _
  have Y0 := hide (show w0.heap[w.heap.size]? = some (.cells #[.string k, .bool o, .bool false, .slice A l.length c, .int .i64 n] 31 : Obj) by rw [← hw0.out]; exact heap_old (by simp <;> omega) (heap_old (by simp <;> omega) (heap_old (by simp <;> omega) (heap_new (by simp)))))
  have Y1 := hide (show w0.heap[w.heap.size + 1]? = some (.cells #[.string m, .string key, .int .i64 v, .string t] 37 : Obj) by rw [← hw0.out]; exact heap_old (by simp <;> omega) (heap_old (by simp <;> omega) (heap_new (by simp))))
  have Y2 := hide (show w0.heap[w.heap.size + 1 + 1]? = some (.cells #[.string ⟨#[]⟩, .bool false, .bool false, .slice none 0 0, .int .i64 0] 31 : Obj) by rw [← hw0.out]; exact heap_old (by simp <;> omega) (heap_new (by simp)))
  have Y3 := hide (show w0.heap[w.heap.size + 1 + 1 + 1]? = some (.cells #[.int .i64 0, .int .i64 0, .string ⟨#[]⟩, .int .i64 0, .int .i64 0] 33 : Obj) by rw [← hw0.out]; exact heap_new (by simp))
  have hs0 : Hid (w0.heap.size = w.heap.size + 1 + 1 + 1 + 1) := by rw [← hw0.out, Hid]; simp
  go_wp2_with fail
  rw [hw0.out]
  have HO0 := hide (OwnL.below HS.out b0 (Nat.le_refl _))
  have hl0 : base ≤ w0.heap.size := Nat.le_trans hbs b0.size
  obtain ⟨_, _, _, _, _, _⟩ := five_cells Y0.out
  obtain ⟨_, _, _, _, _⟩ := four_cells Y1.out
  obtain ⟨d0, d1, d2, d3, d4, df⟩ := five_cells Y2.out
  obtain ⟨e0, e1, e2, e3, e4, ef⟩ := five_cells Y3.out
  go_wp2_with fail
  refine (l3Run_c k m o false false false _ l n base _ HO0.out hl0 hn0 hHeal hStop R (by rw [Hid, HN.out])).mono ?_; rintro e w1 ⟨s1, he, o1, b1⟩
  obtain ⟨⟨k1, o1b, b1b, l1, n1⟩, ⟨c1, v1, t1, wa1, h1⟩⟩ := R
  subst he
  obtain ⟨A1, cc1, rfl⟩ := OwnL.shape o1
  unfold coreV replyV
  dsimp only at o1 ⊢
  have B1 := below_then b0 b1
  have X0 := hide (row_on b1 Y0.out)
  have X1 := hide (row_on b1 Y1.out)
  have X2 := hide (row_on b1 Y2.out)
  have X3 := hide (row_on b1 Y3.out)
  have hz1 : w.heap.size + 1 + 1 + 1 < w1.heap.size := (Array.getElem?_eq_some_iff.1 X3.out).1
  have hz0 := hs0.out
  have HFX := hide (fun g hg => And.intro (own_ne o1 X2.out (by decide) g hg) (own_ne o1 X3.out (by decide) g hg))
  have HO1 := hide o1
  clear o1
  obtain ⟨_, _, _, _, _, _⟩ := five_cells X0.out
  obtain ⟨_, _, _, _, _⟩ := four_cells X1.out
  obtain ⟨d0, d1, d2, d3, d4, df⟩ := five_cells X2.out
  obtain ⟨e0, e1, e2, e3, e4, ef⟩ := five_cells X3.out
  go_wp2
  refine bodyPost_ret (v := .tuple #[.agg #[.string k1, .bool o1b, .bool b1b, .slice A1 l1.length cc1, .int .i64 n1], .agg #[.int .i64 c1, .int .i64 v1, .string t1, .int .i64 wa1, .int .i64 h1]]) (by simp [results, Tryz.results55, go_sem, d0, d1, d2, d3, d4, e0, e1, e2, e3, e4]) rfl ?_
  refine ⟨_, rfl, ?_, ?_⟩
  · iterate 10 refine OwnL.set' ?_ (by intro g hg; have := HFX.out g hg; simp <;> omega) _
    exact HO1.out
  · iterate 10 refine below_set ?_ (by simp <;> omega) _
    exact B1
set_option maxHeartbeats 2000000 in
theorem l3Do_stop (k m key t : ByteArray) (v : Int) (o : Bool) (r : Bool) (s : Value) (l : List Pu.CellD) (n : Int) (base : Nat) (w : World) (R : Pu.CoreD × Pu.ReplyD) (hs : OwnL w base 63 2 cellEn s l) (hbs : base ≤ w.heap.size) (hc : Pu.cellsB l = true) (hn0 : 0 ≤ n) (hGet : (m.toList == [71, 101, 116]) = false) (hPut : (m.toList == [80, 117, 116]) = false) (hTell : (m.toList == [84, 101, 108, 108]) = false) (hHear : (m.toList == [72, 101, 97, 114]) = false) (hSave : (m.toList == [83, 97, 118, 101]) = false) (hLoad : (m.toList == [76, 111, 97, 100]) = false) (hHeal : (m.toList == [72, 101, 97, 108]) = false) (hStop : (m.toList == [83, 116, 111, 112]) = true) (HN : Hid (R = Pu.runF false true ⟨k, o, false, l, n⟩)) :
    Calls Tryz.prog 55 #[.agg #[.string k, .bool o, .bool false, s, .int .i64 n], .agg #[.string m, .string key, .int .i64 v, .string t], .bool r] w fun e w' => ∃ s', e = .returned (.tuple #[coreV R.1 s', replyV R.2]) ∧ OwnL w' base 63 2 cellEn s' R.1.cells ∧ Below w.heap.size w w' := by
  obtain ⟨A, c, rfl⟩ := hs.shape
  have HS := hide hs
  have hfar0 := fun g hg => (OwnL.lt hs (g := g) hg).2
  have HFAR := hide hfar0
  have HCC := hide hc
  clear hs hfar0 hc
  go_enter Tryz.func55, Tryz.ntmps55
  obtain ⟨w0, hw0⟩ : ∃ w0, Hid ((((w.alloc (.cells #[.string k, .bool o, .bool false, .slice A l.length c, .int .i64 n] 31 : Obj)).alloc (.cells #[.string m, .string key, .int .i64 v, .string t] 37 : Obj)).alloc (.cells #[.string ⟨#[]⟩, .bool false, .bool false, .slice none 0 0, .int .i64 0] 31 : Obj)).alloc (.cells #[.int .i64 0, .int .i64 0, .string ⟨#[]⟩, .int .i64 0, .int .i64 0] 33 : Obj) = w0) := ⟨_, rfl⟩
  have b0 : Below w.heap.size w w0 := by rw [← hw0.out]; exact below_alloc (below_alloc (below_alloc (below_alloc (Below.refl _ _) _) _) _) _
  have Y0 := hide (show w0.heap[w.heap.size]? = some (.cells #[.string k, .bool o, .bool false, .slice A l.length c, .int .i64 n] 31 : Obj) by rw [← hw0.out]; exact heap_old (by simp <;> omega) (heap_old (by simp <;> omega) (heap_old (by simp <;> omega) (heap_new (by simp)))))
  have Y1 := hide (show w0.heap[w.heap.size + 1]? = some (.cells #[.string m, .string key, .int .i64 v, .string t] 37 : Obj) by rw [← hw0.out]; exact heap_old (by simp <;> omega) (heap_old (by simp <;> omega) (heap_new (by simp))))
  have Y2 := hide (show w0.heap[w.heap.size + 1 + 1]? = some (.cells #[.string ⟨#[]⟩, .bool false, .bool false, .slice none 0 0, .int .i64 0] 31 : Obj) by rw [← hw0.out]; exact heap_old (by simp <;> omega) (heap_new (by simp)))
  have Y3 := hide (show w0.heap[w.heap.size + 1 + 1 + 1]? = some (.cells #[.int .i64 0, .int .i64 0, .string ⟨#[]⟩, .int .i64 0, .int .i64 0] 33 : Obj) by rw [← hw0.out]; exact heap_new (by simp))
  have hs0 : Hid (w0.heap.size = w.heap.size + 1 + 1 + 1 + 1) := by rw [← hw0.out, Hid]; simp
  go_wp2_with fail
  rw [hw0.out]
  have HO0 := hide (OwnL.below HS.out b0 (Nat.le_refl _))
  have hl0 : base ≤ w0.heap.size := Nat.le_trans hbs b0.size
  obtain ⟨_, _, _, _, _, _⟩ := five_cells Y0.out
  obtain ⟨_, _, _, _, _⟩ := four_cells Y1.out
  obtain ⟨d0, d1, d2, d3, d4, df⟩ := five_cells Y2.out
  obtain ⟨e0, e1, e2, e3, e4, ef⟩ := five_cells Y3.out
  go_wp2_with fail
  refine (l3Run_c k m o false false true _ l n base _ HO0.out hl0 hn0 hHeal hStop R (by rw [Hid, HN.out])).mono ?_; rintro e w1 ⟨s1, he, o1, b1⟩
  obtain ⟨⟨k1, o1b, b1b, l1, n1⟩, ⟨c1, v1, t1, wa1, h1⟩⟩ := R
  subst he
  obtain ⟨A1, cc1, rfl⟩ := OwnL.shape o1
  unfold coreV replyV
  dsimp only at o1 ⊢
  have B1 := below_then b0 b1
  have X0 := hide (row_on b1 Y0.out)
  have X1 := hide (row_on b1 Y1.out)
  have X2 := hide (row_on b1 Y2.out)
  have X3 := hide (row_on b1 Y3.out)
  have hz1 : w.heap.size + 1 + 1 + 1 < w1.heap.size := (Array.getElem?_eq_some_iff.1 X3.out).1
  have hz0 := hs0.out
  have HFX := hide (fun g hg => And.intro (own_ne o1 X2.out (by decide) g hg) (own_ne o1 X3.out (by decide) g hg))
  have HO1 := hide o1
  clear o1
  obtain ⟨_, _, _, _, _, _⟩ := five_cells X0.out
  obtain ⟨_, _, _, _, _⟩ := four_cells X1.out
  obtain ⟨d0, d1, d2, d3, d4, df⟩ := five_cells X2.out
  obtain ⟨e0, e1, e2, e3, e4, ef⟩ := five_cells X3.out
  go_wp2
  refine bodyPost_ret (v := .tuple #[.agg #[.string k1, .bool o1b, .bool b1b, .slice A1 l1.length cc1, .int .i64 n1], .agg #[.int .i64 c1, .int .i64 v1, .string t1, .int .i64 wa1, .int .i64 h1]]) (by simp [results, Tryz.results55, go_sem, d0, d1, d2, d3, d4, e0, e1, e2, e3, e4]) rfl ?_
  refine ⟨_, rfl, ?_, ?_⟩
  · iterate 10 refine OwnL.set' ?_ (by intro g hg; have := HFX.out g hg; simp <;> omega) _
    exact HO1.out
  · iterate 10 refine below_set ?_ (by simp <;> omega) _
    exact B1
set_option maxHeartbeats 2000000 in
theorem l3Do_healf (k m key t : ByteArray) (v : Int) (o : Bool) (r : Bool) (s : Value) (l : List Pu.CellD) (n : Int) (base : Nat) (w : World) (R : Pu.CoreD × Pu.ReplyD) (hs : OwnL w base 63 2 cellEn s l) (hbs : base ≤ w.heap.size) (hc : Pu.cellsB l = true) (hn0 : 0 ≤ n) (hGet : (m.toList == [71, 101, 116]) = false) (hPut : (m.toList == [80, 117, 116]) = false) (hTell : (m.toList == [84, 101, 108, 108]) = false) (hHear : (m.toList == [72, 101, 97, 114]) = false) (hSave : (m.toList == [83, 97, 118, 101]) = false) (hLoad : (m.toList == [76, 111, 97, 100]) = false) (hHeal : (m.toList == [72, 101, 97, 108]) = true) (hStop : (m.toList == [83, 116, 111, 112]) = false) (HN : Hid (R = Pu.runF true false ⟨k, o, false, l, n⟩)) :
    Calls Tryz.prog 55 #[.agg #[.string k, .bool o, .bool false, s, .int .i64 n], .agg #[.string m, .string key, .int .i64 v, .string t], .bool r] w fun e w' => ∃ s', e = .returned (.tuple #[coreV R.1 s', replyV R.2]) ∧ OwnL w' base 63 2 cellEn s' R.1.cells ∧ Below w.heap.size w w' := by
  obtain ⟨A, c, rfl⟩ := hs.shape
  have HS := hide hs
  have hfar0 := fun g hg => (OwnL.lt hs (g := g) hg).2
  have HFAR := hide hfar0
  have HCC := hide hc
  clear hs hfar0 hc
  go_enter Tryz.func55, Tryz.ntmps55
  obtain ⟨w0, hw0⟩ : ∃ w0, Hid ((((w.alloc (.cells #[.string k, .bool o, .bool false, .slice A l.length c, .int .i64 n] 31 : Obj)).alloc (.cells #[.string m, .string key, .int .i64 v, .string t] 37 : Obj)).alloc (.cells #[.string ⟨#[]⟩, .bool false, .bool false, .slice none 0 0, .int .i64 0] 31 : Obj)).alloc (.cells #[.int .i64 0, .int .i64 0, .string ⟨#[]⟩, .int .i64 0, .int .i64 0] 33 : Obj) = w0) := ⟨_, rfl⟩
  have b0 : Below w.heap.size w w0 := by rw [← hw0.out]; exact below_alloc (below_alloc (below_alloc (below_alloc (Below.refl _ _) _) _) _) _
  have Y0 := hide (show w0.heap[w.heap.size]? = some (.cells #[.string k, .bool o, .bool false, .slice A l.length c, .int .i64 n] 31 : Obj) by rw [← hw0.out]; exact heap_old (by simp <;> omega) (heap_old (by simp <;> omega) (heap_old (by simp <;> omega) (heap_new (by simp)))))
  have Y1 := hide (show w0.heap[w.heap.size + 1]? = some (.cells #[.string m, .string key, .int .i64 v, .string t] 37 : Obj) by rw [← hw0.out]; exact heap_old (by simp <;> omega) (heap_old (by simp <;> omega) (heap_new (by simp))))
  have Y2 := hide (show w0.heap[w.heap.size + 1 + 1]? = some (.cells #[.string ⟨#[]⟩, .bool false, .bool false, .slice none 0 0, .int .i64 0] 31 : Obj) by rw [← hw0.out]; exact heap_old (by simp <;> omega) (heap_new (by simp)))
  have Y3 := hide (show w0.heap[w.heap.size + 1 + 1 + 1]? = some (.cells #[.int .i64 0, .int .i64 0, .string ⟨#[]⟩, .int .i64 0, .int .i64 0] 33 : Obj) by rw [← hw0.out]; exact heap_new (by simp))
  have hs0 : Hid (w0.heap.size = w.heap.size + 1 + 1 + 1 + 1) := by rw [← hw0.out, Hid]; simp
  go_wp2_with fail
  rw [hw0.out]
  have HO0 := hide (OwnL.below HS.out b0 (Nat.le_refl _))
  have hl0 : base ≤ w0.heap.size := Nat.le_trans hbs b0.size
  obtain ⟨_, _, _, _, _, _⟩ := five_cells Y0.out
  obtain ⟨_, _, _, _, _⟩ := four_cells Y1.out
  obtain ⟨d0, d1, d2, d3, d4, df⟩ := five_cells Y2.out
  obtain ⟨e0, e1, e2, e3, e4, ef⟩ := five_cells Y3.out
  go_wp2_with fail
  refine (l3Run_c k m o false true false _ l n base _ HO0.out hl0 hn0 hHeal hStop R (by rw [Hid, HN.out])).mono ?_; rintro e w1 ⟨s1, he, o1, b1⟩
  obtain ⟨⟨k1, o1b, b1b, l1, n1⟩, ⟨c1, v1, t1, wa1, h1⟩⟩ := R
  subst he
  obtain ⟨A1, cc1, rfl⟩ := OwnL.shape o1
  unfold coreV replyV
  dsimp only at o1 ⊢
  have B1 := below_then b0 b1
  have X0 := hide (row_on b1 Y0.out)
  have X1 := hide (row_on b1 Y1.out)
  have X2 := hide (row_on b1 Y2.out)
  have X3 := hide (row_on b1 Y3.out)
  have hz1 : w.heap.size + 1 + 1 + 1 < w1.heap.size := (Array.getElem?_eq_some_iff.1 X3.out).1
  have hz0 := hs0.out
  have HFX := hide (fun g hg => And.intro (own_ne o1 X2.out (by decide) g hg) (own_ne o1 X3.out (by decide) g hg))
  have HO1 := hide o1
  clear o1
  obtain ⟨_, _, _, _, _, _⟩ := five_cells X0.out
  obtain ⟨_, _, _, _, _⟩ := four_cells X1.out
  obtain ⟨d0, d1, d2, d3, d4, df⟩ := five_cells X2.out
  obtain ⟨e0, e1, e2, e3, e4, ef⟩ := five_cells X3.out
  go_wp2
  refine bodyPost_ret (v := .tuple #[.agg #[.string k1, .bool o1b, .bool b1b, .slice A1 l1.length cc1, .int .i64 n1], .agg #[.int .i64 c1, .int .i64 v1, .string t1, .int .i64 wa1, .int .i64 h1]]) (by simp [results, Tryz.results55, go_sem, d0, d1, d2, d3, d4, e0, e1, e2, e3, e4]) rfl ?_
  refine ⟨_, rfl, ?_, ?_⟩
  · iterate 10 refine OwnL.set' ?_ (by intro g hg; have := HFX.out g hg; simp <;> omega) _
    exact HO1.out
  · iterate 10 refine below_set ?_ (by simp <;> omega) _
    exact B1
set_option maxHeartbeats 2000000 in
theorem l3Do_healt (k m key t : ByteArray) (v : Int) (o : Bool) (r : Bool) (s : Value) (l : List Pu.CellD) (n : Int) (base : Nat) (w : World) (R : Pu.CoreD × Pu.ReplyD) (hs : OwnL w base 63 2 cellEn s l) (hbs : base ≤ w.heap.size) (hc : Pu.cellsB l = true) (hn0 : 0 ≤ n) (hGet : (m.toList == [71, 101, 116]) = false) (hPut : (m.toList == [80, 117, 116]) = false) (hTell : (m.toList == [84, 101, 108, 108]) = false) (hHear : (m.toList == [72, 101, 97, 114]) = false) (hSave : (m.toList == [83, 97, 118, 101]) = false) (hLoad : (m.toList == [76, 111, 97, 100]) = false) (hHeal : (m.toList == [72, 101, 97, 108]) = true) (hStop : (m.toList == [83, 116, 111, 112]) = false) (HN : Hid (R = Pu.runF true false ⟨k, o, true, l, n⟩)) :
    Calls Tryz.prog 55 #[.agg #[.string k, .bool o, .bool true, s, .int .i64 n], .agg #[.string m, .string key, .int .i64 v, .string t], .bool r] w fun e w' => ∃ s', e = .returned (.tuple #[coreV R.1 s', replyV R.2]) ∧ OwnL w' base 63 2 cellEn s' R.1.cells ∧ Below w.heap.size w w' := by
  obtain ⟨A, c, rfl⟩ := hs.shape
  have HS := hide hs
  have hfar0 := fun g hg => (OwnL.lt hs (g := g) hg).2
  have HFAR := hide hfar0
  have HCC := hide hc
  clear hs hfar0 hc
  go_enter Tryz.func55, Tryz.ntmps55
  obtain ⟨w0, hw0⟩ : ∃ w0, Hid ((((w.alloc (.cells #[.string k, .bool o, .bool true, .slice A l.length c, .int .i64 n] 31 : Obj)).alloc (.cells #[.string m, .string key, .int .i64 v, .string t] 37 : Obj)).alloc (.cells #[.string ⟨#[]⟩, .bool false, .bool false, .slice none 0 0, .int .i64 0] 31 : Obj)).alloc (.cells #[.int .i64 0, .int .i64 0, .string ⟨#[]⟩, .int .i64 0, .int .i64 0] 33 : Obj) = w0) := ⟨_, rfl⟩
  have b0 : Below w.heap.size w w0 := by rw [← hw0.out]; exact below_alloc (below_alloc (below_alloc (below_alloc (Below.refl _ _) _) _) _) _
  have Y0 := hide (show w0.heap[w.heap.size]? = some (.cells #[.string k, .bool o, .bool true, .slice A l.length c, .int .i64 n] 31 : Obj) by rw [← hw0.out]; exact heap_old (by simp <;> omega) (heap_old (by simp <;> omega) (heap_old (by simp <;> omega) (heap_new (by simp)))))
  have Y1 := hide (show w0.heap[w.heap.size + 1]? = some (.cells #[.string m, .string key, .int .i64 v, .string t] 37 : Obj) by rw [← hw0.out]; exact heap_old (by simp <;> omega) (heap_old (by simp <;> omega) (heap_new (by simp))))
  have Y2 := hide (show w0.heap[w.heap.size + 1 + 1]? = some (.cells #[.string ⟨#[]⟩, .bool false, .bool false, .slice none 0 0, .int .i64 0] 31 : Obj) by rw [← hw0.out]; exact heap_old (by simp <;> omega) (heap_new (by simp)))
  have Y3 := hide (show w0.heap[w.heap.size + 1 + 1 + 1]? = some (.cells #[.int .i64 0, .int .i64 0, .string ⟨#[]⟩, .int .i64 0, .int .i64 0] 33 : Obj) by rw [← hw0.out]; exact heap_new (by simp))
  have hs0 : Hid (w0.heap.size = w.heap.size + 1 + 1 + 1 + 1) := by rw [← hw0.out, Hid]; simp
  go_wp2_with fail
  rw [hw0.out]
  have HO0 := hide (OwnL.below HS.out b0 (Nat.le_refl _))
  have hl0 : base ≤ w0.heap.size := Nat.le_trans hbs b0.size
  obtain ⟨_, _, _, _, _, _⟩ := five_cells Y0.out
  obtain ⟨_, _, _, _, _⟩ := four_cells Y1.out
  obtain ⟨d0, d1, d2, d3, d4, df⟩ := five_cells Y2.out
  obtain ⟨e0, e1, e2, e3, e4, ef⟩ := five_cells Y3.out
  go_wp2_with fail
  refine (l3Run_c k m o true true false _ l n base _ HO0.out hl0 hn0 hHeal hStop R (by rw [Hid, HN.out])).mono ?_; rintro e w1 ⟨s1, he, o1, b1⟩
  obtain ⟨⟨k1, o1b, b1b, l1, n1⟩, ⟨c1, v1, t1, wa1, h1⟩⟩ := R
  subst he
  obtain ⟨A1, cc1, rfl⟩ := OwnL.shape o1
  unfold coreV replyV
  dsimp only at o1 ⊢
  have B1 := below_then b0 b1
  have X0 := hide (row_on b1 Y0.out)
  have X1 := hide (row_on b1 Y1.out)
  have X2 := hide (row_on b1 Y2.out)
  have X3 := hide (row_on b1 Y3.out)
  have hz1 : w.heap.size + 1 + 1 + 1 < w1.heap.size := (Array.getElem?_eq_some_iff.1 X3.out).1
  have hz0 := hs0.out
  have HFX := hide (fun g hg => And.intro (own_ne o1 X2.out (by decide) g hg) (own_ne o1 X3.out (by decide) g hg))
  have HO1 := hide o1
  clear o1
  obtain ⟨_, _, _, _, _, _⟩ := five_cells X0.out
  obtain ⟨_, _, _, _, _⟩ := four_cells X1.out
  obtain ⟨d0, d1, d2, d3, d4, df⟩ := five_cells X2.out
  obtain ⟨e0, e1, e2, e3, e4, ef⟩ := five_cells X3.out
  go_wp2
  refine bodyPost_ret (v := .tuple #[.agg #[.string k1, .bool o1b, .bool b1b, .slice A1 l1.length cc1, .int .i64 n1], .agg #[.int .i64 c1, .int .i64 v1, .string t1, .int .i64 wa1, .int .i64 h1]]) (by simp [results, Tryz.results55, go_sem, d0, d1, d2, d3, d4, e0, e1, e2, e3, e4]) rfl ?_
  refine ⟨_, rfl, ?_, ?_⟩
  · iterate 10 refine OwnL.set' ?_ (by intro g hg; have := HFX.out g hg; simp <;> omega) _
    exact HO1.out
  · iterate 10 refine below_set ?_ (by simp <;> omega) _
    exact B1
theorem l3Do_c (p : Pu.CoreD) (x : Pu.CallD) (r : Bool) (s : Value) (base : Nat) (w : World) (hs : OwnL w base 63 2 cellEn s p.cells) (hbs : base ≤ w.heap.size) (hp : Pu.coreB p = true) (hx : Pu.callB x = true) (hr : Pu.hasB (Pu.faceK p) 0 = r) (ht : x.text.size ≤ 1048576) (R : Pu.CoreD × Pu.ReplyD) (HR : Hid (Pu.doF p x = R)) :
    Calls Tryz.prog 55 #[coreV p s, callV x, .bool r] w fun e w' => ∃ s', e = .returned (.tuple #[coreV R.1 s', replyV R.2]) ∧ OwnL w' base 63 2 cellEn s' R.1.cells ∧ Below w.heap.size w w' := by
  obtain ⟨hc, hn0, _, _, hwf⟩ := good_of hp
  have hcase := Pu.call_cases hx
  obtain ⟨k, o, b, l, n⟩ := p
  obtain ⟨m, key, v, t⟩ := x
  dsimp only at hs hc hn0 hwf hcase ht
  clear hp hx
  rcases hcase with e | e | e | e | e | e | e | e | e
  · have e : m.toList = Pu.mStart := e
    rcases b with _ | _
    · exact l3Do_start k m key t v o r s l n base w R hs hbs hc hn0 (by rw [e]; decide) (by rw [e]; decide) (by rw [e]; decide) (by rw [e]; decide) (by rw [e]; decide) (by rw [e]; decide) (by rw [e]; decide) (by rw [e]; decide) (by rw [Hid, ← HR.out]; unfold Pu.doF; dsimp only; rw [e]; rfl)
    · exact l3Do_broken k m key t v o r s l n base w R hs hbs hc hn0 (by rw [e]; decide) (by rw [e]; decide) (by rw [Hid, ← HR.out]; unfold Pu.doF; dsimp only; rw [e]; rfl)
  · have e : m.toList = Pu.mStop := e
    rcases b with _ | _
    · exact l3Do_stop k m key t v o r s l n base w R hs hbs hc hn0 (by rw [e]; decide) (by rw [e]; decide) (by rw [e]; decide) (by rw [e]; decide) (by rw [e]; decide) (by rw [e]; decide) (by rw [e]; decide) (by rw [e]; decide) (by rw [Hid, ← HR.out]; unfold Pu.doF; dsimp only; rw [e]; rfl)
    · exact l3Do_broken k m key t v o r s l n base w R hs hbs hc hn0 (by rw [e]; decide) (by rw [e]; decide) (by rw [Hid, ← HR.out]; unfold Pu.doF; dsimp only; rw [e]; rfl)
  · have e : m.toList = Pu.mGet := e
    rcases b with _ | _
    · exact l3Do_get k m key t v o r s l n base w R hs hbs hc hn0 hr (by rw [e]; decide) (by rw [Hid, ← HR.out]; unfold Pu.doF; dsimp only; rw [e]; rfl)
    · exact l3Do_broken k m key t v o r s l n base w R hs hbs hc hn0 (by rw [e]; decide) (by rw [e]; decide) (by rw [Hid, ← HR.out]; unfold Pu.doF; dsimp only; rw [e]; rfl)
  · have e : m.toList = Pu.mPut := e
    rcases b with _ | _
    · exact l3Do_put k m key t v o r s l n base w R hs hbs hc hn0 hr (by rw [e]; decide) (by rw [e]; decide) (by rw [Hid, ← HR.out]; unfold Pu.doF; dsimp only; rw [e]; rfl)
    · exact l3Do_broken k m key t v o r s l n base w R hs hbs hc hn0 (by rw [e]; decide) (by rw [e]; decide) (by rw [Hid, ← HR.out]; unfold Pu.doF; dsimp only; rw [e]; rfl)
  · have e : m.toList = Pu.mTell := e
    rcases b with _ | _
    · exact l3Do_tellf k m key t v o r s l n base w R hs hbs hc hn0 (by rw [e]; decide) (by rw [e]; decide) (by rw [e]; decide) (by rw [e]; decide) (by rw [Hid, ← HR.out]; unfold Pu.doF; dsimp only; rw [e]; rfl)
    · exact l3Do_tellt k m key t v o r s l n base w R hs hbs hc hn0 (by rw [e]; decide) (by rw [e]; decide) (by rw [e]; decide) (by rw [e]; decide) (by rw [Hid, ← HR.out]; unfold Pu.doF; dsimp only; rw [e]; rfl)
  · have e : m.toList = Pu.mHear := e
    rcases b with _ | _
    · by_cases h1 : v = 1
      · subst h1
        exact l3Do_hear1 k m key t o r s l n base w R hs hbs hc hn0 (by rw [e]; decide) (by rw [e]; decide) (by rw [e]; decide) (by rw [e]; decide) (by rw [Hid, ← HR.out]; unfold Pu.doF; dsimp only; rw [e]; simp [show (Pu.mHear == Pu.mGet) = false by decide, show (Pu.mHear == Pu.mPut) = false by decide, show (Pu.mHear == Pu.mTell) = false by decide])
      · by_cases h0 : v = 0
        · subst h0
          rcases o with _ | _
          · exact l3Do_hear0f k m key t r s l n base w R hs hbs hc hn0 (by rw [e]; decide) (by rw [e]; decide) (by rw [e]; decide) (by rw [e]; decide) (by rw [Hid, ← HR.out]; unfold Pu.doF; dsimp only; rw [e]; simp [show (Pu.mHear == Pu.mGet) = false by decide, show (Pu.mHear == Pu.mPut) = false by decide, show (Pu.mHear == Pu.mTell) = false by decide])
          · exact l3Do_hear0t k m key t r s l n base w R hs hbs hc hn0 (by rw [e]; decide) (by rw [e]; decide) (by rw [e]; decide) (by rw [e]; decide) (by rw [Hid, ← HR.out]; unfold Pu.doF; dsimp only; rw [e]; simp [show (Pu.mHear == Pu.mGet) = false by decide, show (Pu.mHear == Pu.mPut) = false by decide, show (Pu.mHear == Pu.mTell) = false by decide])
        · rcases o with _ | _
          · exact l3Do_hearf k m key t v r s l n base w R hs hbs hc hn0 (by rw [e]; decide) (by rw [e]; decide) (by rw [e]; decide) (by rw [e]; decide) (by simpa using h1) (by simpa using h0) (by rw [Hid, ← HR.out]; unfold Pu.doF; dsimp only; rw [e]; simp [show (Pu.mHear == Pu.mGet) = false by decide, show (Pu.mHear == Pu.mPut) = false by decide, show (Pu.mHear == Pu.mTell) = false by decide, h1])
          · exact l3Do_heart k m key t v r s l n base w R hs hbs hc hn0 (by rw [e]; decide) (by rw [e]; decide) (by rw [e]; decide) (by rw [e]; decide) (by simpa using h1) (by simpa using h0) (by rw [Hid, ← HR.out]; unfold Pu.doF; dsimp only; rw [e]; simp [show (Pu.mHear == Pu.mGet) = false by decide, show (Pu.mHear == Pu.mPut) = false by decide, show (Pu.mHear == Pu.mTell) = false by decide, h1, h0])
    · exact l3Do_broken k m key t v o r s l n base w R hs hbs hc hn0 (by rw [e]; decide) (by rw [e]; decide) (by rw [Hid, ← HR.out]; unfold Pu.doF; dsimp only; rw [e]; rfl)
  · have e : m.toList = Pu.mLoad := e
    rcases b with _ | _
    · rcases hok : Pu.pcOk t with _ | _
      · exact l3Do_loadf k m key t v o r s l n base w R hs hbs hc hn0 (by rw [e]; decide) (by rw [e]; decide) (by rw [e]; decide) (by rw [e]; decide) (by rw [e]; decide) (by rw [e]; decide) ht hok (by rw [Hid, ← HR.out]; unfold Pu.doF; dsimp only; rw [e]; simp [show (Pu.mLoad == Pu.mGet) = false by decide, show (Pu.mLoad == Pu.mPut) = false by decide, show (Pu.mLoad == Pu.mTell) = false by decide, show (Pu.mLoad == Pu.mHear) = false by decide, show (Pu.mLoad == Pu.mSave) = false by decide, hok])
      · exact l3Do_loadt k m key t v o r s l n base w R hs hbs hc hn0 (by rw [e]; decide) (by rw [e]; decide) (by rw [e]; decide) (by rw [e]; decide) (by rw [e]; decide) (by rw [e]; decide) ht hok (by rw [Hid, ← HR.out]; unfold Pu.doF; dsimp only; rw [e]; simp [show (Pu.mLoad == Pu.mGet) = false by decide, show (Pu.mLoad == Pu.mPut) = false by decide, show (Pu.mLoad == Pu.mTell) = false by decide, show (Pu.mLoad == Pu.mHear) = false by decide, show (Pu.mLoad == Pu.mSave) = false by decide, hok])
    · exact l3Do_broken k m key t v o r s l n base w R hs hbs hc hn0 (by rw [e]; decide) (by rw [e]; decide) (by rw [Hid, ← HR.out]; unfold Pu.doF; dsimp only; rw [e]; rfl)
  · have e : m.toList = Pu.mSave := e
    rcases b with _ | _
    · exact l3Do_save k m key t v o r s l n base w R hs hbs hc hn0 (by rw [e]; decide) (by rw [e]; decide) (by rw [e]; decide) (by rw [e]; decide) (by rw [e]; decide) hwf (by rw [Hid, ← HR.out]; unfold Pu.doF; dsimp only; rw [e]; rfl)
    · exact l3Do_broken k m key t v o r s l n base w R hs hbs hc hn0 (by rw [e]; decide) (by rw [e]; decide) (by rw [Hid, ← HR.out]; unfold Pu.doF; dsimp only; rw [e]; rfl)
  · have e : m.toList = Pu.mHeal := e
    rcases b with _ | _
    · exact l3Do_healf k m key t v o r s l n base w R hs hbs hc hn0 (by rw [e]; decide) (by rw [e]; decide) (by rw [e]; decide) (by rw [e]; decide) (by rw [e]; decide) (by rw [e]; decide) (by rw [e]; decide) (by rw [e]; decide) (by rw [Hid, ← HR.out]; unfold Pu.doF; dsimp only; rw [e]; rfl)
    · exact l3Do_healt k m key t v o r s l n base w R hs hbs hc hn0 (by rw [e]; decide) (by rw [e]; decide) (by rw [e]; decide) (by rw [e]; decide) (by rw [e]; decide) (by rw [e]; decide) (by rw [e]; decide) (by rw [e]; decide) (by rw [Hid, ← HR.out]; unfold Pu.doF; dsimp only; rw [e]; rfl)
end Go.Proofs.YtllmcnmongaahaaGreatDoor
