/- Contracts: what the reference's calls do to a core (does). Written by wip/tools/doesgen.py. -/
import Derived.Test.YtllmcnmongaahaaGreatDoorIKeepC
import Derived.Test.YtllmcnmongaahaaGreatDoorM2
import Derived.Test.YtllmcnmongaahaaGreatDoorM1
import Derived.Test.YtllmcnmongaahaaGreatDoorPCells
import Derived.Deep.Cut
namespace Go.Proofs.YtllmcnmongaahaaGreatDoor
open Go.ChangeShapes Go.WideShapes Go.ChangeAt Go.RowKit
set_option maxRecDepth 100000
set_option linter.unusedVariables false
set_option maxHeartbeats 2000000 in
theorem iDo_broken (G : Nat) (k m key t : ByteArray) (v : Int) (o : Bool) (s : Value) (l : List Pu.CellD) (n : Int) (base : Nat) (w : World) (R : Pu.CoreD × Pu.ReplyD) (hg : w.heap[G]? = some (.cells #[.string k, .bool o, .bool true, s, .int .i64 n] 31 (0, 0) : Obj)) (hs : OwnL w base 63 2 cellEn s l) (hbG : base ≤ G) (hc : Pu.cellsB l = true) (hn0 : 0 ≤ n) (hn1 : n ≤ 999) (hHeal : (m.toList == [72, 101, 97, 108]) = false) (hTell : (m.toList == [84, 101, 108, 108]) = false) (HN : Hid (R = (⟨k, o, true, l, n⟩, Pu.rp 3 0))) :
    Calls Tryz.prog 59 #[.pointer (some ⟨G, 0, none⟩), .agg #[.string m, .string key, .int .i64 v, .string t]] w fun e w' => ∃ A' c', e = .returned (replyV R.2) ∧ w'.heap[G]? = some (.cells #[.string R.1.kind, .bool R.1.on, .bool R.1.broken, .slice A' R.1.cells.length c', .int .i64 R.1.count] 31 (0, 0)) ∧ OwnL w' base 63 2 cellEn (.slice A' R.1.cells.length c') R.1.cells ∧ Below base w w' ∧ Only G s.ownBlock w w' := by
  obtain ⟨A, c, rfl⟩ := hs.shape
  have HS := hide hs
  have hGs : G < w.heap.size := (Array.getElem?_eq_some_iff.1 hg).1
  have HCC := hide hc
  have E0 := hide (show ((w.alloc (.cells #[.string m, .string key, .int .i64 v, .string t] 37 : Obj)).alloc (.cells #[.int .i64 0, .int .i64 0, .string ⟨#[]⟩, .int .i64 0, .int .i64 0] 33 : Obj)).heap[G]? = some (.cells #[.string k, .bool o, .bool true, .slice A l.length c, .int .i64 n] 31 (0, 0) : Obj) from heap_old (by simp <;> omega) (heap_old (by omega) hg))
  clear hs hg hc
  go_enter Tryz.func59, Tryz.ntmps59
  go_upto_region 1 with fail
  obtain ⟨w0, hw0⟩ : ∃ w0, Hid ((w.alloc (.cells #[.string m, .string key, .int .i64 v, .string t] 37 : Obj)).alloc (.cells #[.int .i64 0, .int .i64 0, .string ⟨#[]⟩, .int .i64 0, .int .i64 0] 33 : Obj) = w0) := ⟨_, rfl⟩
  rw [hw0.out]
  have b0 : Below w.heap.size w w0 := by rw [← hw0.out]; exact below_alloc (below_alloc (Below.refl _ _) _) _
  have Y0 := hide (show w0.heap[G]? = some (.cells #[.string k, .bool o, .bool true, .slice A l.length c, .int .i64 n] 31 (0, 0) : Obj) by rw [← hw0.out]; exact E0.out)
  have Y1 := hide (show w0.heap[w.heap.size]? = some (.cells #[.string m, .string key, .int .i64 v, .string t] 37 : Obj) by rw [← hw0.out]; exact heap_old (by simp) (heap_new rfl))
  have Y2 := hide (show w0.heap[w.heap.size + 1]? = some (.cells #[.int .i64 0, .int .i64 0, .string ⟨#[]⟩, .int .i64 0, .int .i64 0] 33 : Obj) by rw [← hw0.out]; exact heap_new (by simp))
  have HO0 := hide (OwnL.below HS.out b0 (Nat.le_refl _))
  have hb0 : Below base w w0 := b0.mono (by omega)
  clear E0
  have HFX := hide (fun g hg => And.intro (own_ne HO0.out Y0.out (by decide) g hg) (own_ne HO0.out Y2.out (by decide) g hg))
  obtain ⟨_, _, _, _, _, _⟩ := five_cells Y0.out
  obtain ⟨_, _, _, _, _⟩ := four_cells Y1.out
  obtain ⟨e0, e1, e2, e3, e4, ef⟩ := five_cells Y2.out
  have hx21a : ¬ G = w.heap.size := by omega
  have hx21b : ¬ w.heap.size = G := by omega
  have hx23a : ¬ G = w.heap.size + 1 := by omega
  have hx23b : ¬ w.heap.size + 1 = G := by omega
  go_wp2
  refine bodyPost_ret (v := .agg #[.int .i64 3, .int .i64 0, .string ⟨#[]⟩, .int .i64 0, .int .i64 0]) (by simp [results, Tryz.results59, go_sem, e0, e1, e2, e3, e4]) rfl ?_
  rw [HN.out]
  refine ⟨A, c, rfl, ?_, ?_, ?_, ?_⟩
  · iterate 5 refine row_past ?_ (by omega)
    exact Y0.out
  · iterate 5 refine OwnL.set' ?_ (by intro g hg; have := HFX.out g hg; simp <;> omega) _
    exact HO0.out
  · iterate 5 refine Below.setCell ?_ (by simp <;> omega) _
    exact hb0
  · iterate 5 refine only_set ?_ (by first | exact .inl rfl | exact .inr (.inr (by simp <;> omega))) _
    exact only_below b0
set_option maxHeartbeats 2000000 in
theorem iDo_start1 (G : Nat) (k m key t : ByteArray) (v : Int) (s : Value) (l : List Pu.CellD) (n : Int) (base : Nat) (w : World) (R : Pu.CoreD × Pu.ReplyD) (hg : w.heap[G]? = some (.cells #[.string k, .bool true, .bool false, s, .int .i64 n] 31 (0, 0) : Obj)) (hs : OwnL w base 63 2 cellEn s l) (hbG : base ≤ G) (hc : Pu.cellsB l = true) (hn0 : 0 ≤ n) (hn1 : n ≤ 999) (hStart : (m.toList == [83, 116, 97, 114, 116]) = true) (hStop : (m.toList == [83, 116, 111, 112]) = false) (hGet : (m.toList == [71, 101, 116]) = false) (hPut : (m.toList == [80, 117, 116]) = false) (hTell : (m.toList == [84, 101, 108, 108]) = false) (hHear : (m.toList == [72, 101, 97, 114]) = false) (hSave : (m.toList == [83, 97, 118, 101]) = false) (hLoad : (m.toList == [76, 111, 97, 100]) = false) (hHeal : (m.toList == [72, 101, 97, 108]) = false) (HN : Hid (R = (⟨k, false, true, l, n⟩, Pu.rp 3 0))) :
    Calls Tryz.prog 59 #[.pointer (some ⟨G, 0, none⟩), .agg #[.string m, .string key, .int .i64 v, .string t]] w fun e w' => ∃ A' c', e = .returned (replyV R.2) ∧ w'.heap[G]? = some (.cells #[.string R.1.kind, .bool R.1.on, .bool R.1.broken, .slice A' R.1.cells.length c', .int .i64 R.1.count] 31 (0, 0)) ∧ OwnL w' base 63 2 cellEn (.slice A' R.1.cells.length c') R.1.cells ∧ Below base w w' ∧ Only G s.ownBlock w w' := by
  obtain ⟨A, c, rfl⟩ := hs.shape
  have HS := hide hs
  have hGs : G < w.heap.size := (Array.getElem?_eq_some_iff.1 hg).1
  have HCC := hide hc
  have E0 := hide (show ((w.alloc (.cells #[.string m, .string key, .int .i64 v, .string t] 37 : Obj)).alloc (.cells #[.int .i64 0, .int .i64 0, .string ⟨#[]⟩, .int .i64 0, .int .i64 0] 33 : Obj)).heap[G]? = some (.cells #[.string k, .bool true, .bool false, .slice A l.length c, .int .i64 n] 31 (0, 0) : Obj) from heap_old (by simp <;> omega) (heap_old (by omega) hg))
  clear hs hg hc
  go_enter Tryz.func59, Tryz.ntmps59
  go_upto_region 1 with fail
  obtain ⟨w0, hw0⟩ : ∃ w0, Hid ((w.alloc (.cells #[.string m, .string key, .int .i64 v, .string t] 37 : Obj)).alloc (.cells #[.int .i64 0, .int .i64 0, .string ⟨#[]⟩, .int .i64 0, .int .i64 0] 33 : Obj) = w0) := ⟨_, rfl⟩
  rw [hw0.out]
  have b0 : Below w.heap.size w w0 := by rw [← hw0.out]; exact below_alloc (below_alloc (Below.refl _ _) _) _
  have Y0 := hide (show w0.heap[G]? = some (.cells #[.string k, .bool true, .bool false, .slice A l.length c, .int .i64 n] 31 (0, 0) : Obj) by rw [← hw0.out]; exact E0.out)
  have Y1 := hide (show w0.heap[w.heap.size]? = some (.cells #[.string m, .string key, .int .i64 v, .string t] 37 : Obj) by rw [← hw0.out]; exact heap_old (by simp) (heap_new rfl))
  have Y2 := hide (show w0.heap[w.heap.size + 1]? = some (.cells #[.int .i64 0, .int .i64 0, .string ⟨#[]⟩, .int .i64 0, .int .i64 0] 33 : Obj) by rw [← hw0.out]; exact heap_new (by simp))
  have HO0 := hide (OwnL.below HS.out b0 (Nat.le_refl _))
  have hb0 : Below base w w0 := b0.mono (by omega)
  clear E0
  have HFX := hide (fun g hg => And.intro (own_ne HO0.out Y0.out (by decide) g hg) (own_ne HO0.out Y2.out (by decide) g hg))
  obtain ⟨_, _, _, _, _, _⟩ := five_cells Y0.out
  obtain ⟨_, _, _, _, _⟩ := four_cells Y1.out
  obtain ⟨e0, e1, e2, e3, e4, ef⟩ := five_cells Y2.out
  have hx21a : ¬ G = w.heap.size := by omega
  have hx21b : ¬ w.heap.size = G := by omega
  have hx23a : ¬ G = w.heap.size + 1 := by omega
  have hx23b : ¬ w.heap.size + 1 = G := by omega
  go_wp2
  refine bodyPost_ret (v := .agg #[.int .i64 3, .int .i64 0, .string ⟨#[]⟩, .int .i64 0, .int .i64 0]) (by simp [results, Tryz.results59, go_sem, e0, e1, e2, e3, e4]) rfl ?_
  rw [HN.out]
  refine ⟨A, c, rfl, ?_, ?_, ?_, ?_⟩
  · iterate 5 refine row_past ?_ (by omega)
    exact (row5_set (row5_set Y0.out).1).2.1
  · iterate 7 refine OwnL.set' ?_ (by intro g hg; have := HFX.out g hg; simp <;> omega) _
    exact HO0.out
  · iterate 7 refine Below.setCell ?_ (by simp <;> omega) _
    exact hb0
  · iterate 7 refine only_set ?_ (by first | exact .inl rfl | exact .inr (.inr (by simp <;> omega))) _
    exact only_below b0
set_option maxHeartbeats 2000000 in
theorem iDo_start0 (G : Nat) (k m key t : ByteArray) (v : Int) (s : Value) (l : List Pu.CellD) (n : Int) (base : Nat) (w : World) (R : Pu.CoreD × Pu.ReplyD) (hg : w.heap[G]? = some (.cells #[.string k, .bool false, .bool false, s, .int .i64 n] 31 (0, 0) : Obj)) (hs : OwnL w base 63 2 cellEn s l) (hbG : base ≤ G) (hc : Pu.cellsB l = true) (hn0 : 0 ≤ n) (hn1 : n ≤ 999) (hStart : (m.toList == [83, 116, 97, 114, 116]) = true) (hStop : (m.toList == [83, 116, 111, 112]) = false) (hGet : (m.toList == [71, 101, 116]) = false) (hPut : (m.toList == [80, 117, 116]) = false) (hTell : (m.toList == [84, 101, 108, 108]) = false) (hHear : (m.toList == [72, 101, 97, 114]) = false) (hSave : (m.toList == [83, 97, 118, 101]) = false) (hLoad : (m.toList == [76, 111, 97, 100]) = false) (hHeal : (m.toList == [72, 101, 97, 108]) = false) (HN : Hid (R = (⟨k, true, false, l, Pu.upF n⟩, Pu.rp 0 0))) :
    Calls Tryz.prog 59 #[.pointer (some ⟨G, 0, none⟩), .agg #[.string m, .string key, .int .i64 v, .string t]] w fun e w' => ∃ A' c', e = .returned (replyV R.2) ∧ w'.heap[G]? = some (.cells #[.string R.1.kind, .bool R.1.on, .bool R.1.broken, .slice A' R.1.cells.length c', .int .i64 R.1.count] 31 (0, 0)) ∧ OwnL w' base 63 2 cellEn (.slice A' R.1.cells.length c') R.1.cells ∧ Below base w w' ∧ Only G s.ownBlock w w' := by
  obtain ⟨A, c, rfl⟩ := hs.shape
  have HS := hide hs
  have hGs : G < w.heap.size := (Array.getElem?_eq_some_iff.1 hg).1
  have HCC := hide hc
  have E0 := hide (show ((w.alloc (.cells #[.string m, .string key, .int .i64 v, .string t] 37 : Obj)).alloc (.cells #[.int .i64 0, .int .i64 0, .string ⟨#[]⟩, .int .i64 0, .int .i64 0] 33 : Obj)).heap[G]? = some (.cells #[.string k, .bool false, .bool false, .slice A l.length c, .int .i64 n] 31 (0, 0) : Obj) from heap_old (by simp <;> omega) (heap_old (by omega) hg))
  clear hs hg hc
  go_enter Tryz.func59, Tryz.ntmps59
  go_upto_region 1 with fail
  obtain ⟨w0, hw0⟩ : ∃ w0, Hid ((w.alloc (.cells #[.string m, .string key, .int .i64 v, .string t] 37 : Obj)).alloc (.cells #[.int .i64 0, .int .i64 0, .string ⟨#[]⟩, .int .i64 0, .int .i64 0] 33 : Obj) = w0) := ⟨_, rfl⟩
  rw [hw0.out]
  have b0 : Below w.heap.size w w0 := by rw [← hw0.out]; exact below_alloc (below_alloc (Below.refl _ _) _) _
  have Y0 := hide (show w0.heap[G]? = some (.cells #[.string k, .bool false, .bool false, .slice A l.length c, .int .i64 n] 31 (0, 0) : Obj) by rw [← hw0.out]; exact E0.out)
  have Y1 := hide (show w0.heap[w.heap.size]? = some (.cells #[.string m, .string key, .int .i64 v, .string t] 37 : Obj) by rw [← hw0.out]; exact heap_old (by simp) (heap_new rfl))
  have Y2 := hide (show w0.heap[w.heap.size + 1]? = some (.cells #[.int .i64 0, .int .i64 0, .string ⟨#[]⟩, .int .i64 0, .int .i64 0] 33 : Obj) by rw [← hw0.out]; exact heap_new (by simp))
  have HO0 := hide (OwnL.below HS.out b0 (Nat.le_refl _))
  have hb0 : Below base w w0 := b0.mono (by omega)
  clear E0
  have HFX := hide (fun g hg => And.intro (own_ne HO0.out Y0.out (by decide) g hg) (own_ne HO0.out Y2.out (by decide) g hg))
  obtain ⟨_, _, _, _, _, _⟩ := five_cells Y0.out
  obtain ⟨_, _, _, _, _⟩ := four_cells Y1.out
  obtain ⟨e0, e1, e2, e3, e4, ef⟩ := five_cells Y2.out
  have hx21a : ¬ G = w.heap.size := by omega
  have hx21b : ¬ w.heap.size = G := by omega
  have hx23a : ¬ G = w.heap.size + 1 := by omega
  have hx23b : ¬ w.heap.size + 1 = G := by omega
  go_wp2_with fail
  refine (countUp_c n _ hn0 hn1).mono ?_; rintro e w1 ⟨rfl, rfl⟩
  go_wp2
  refine bodyPost_ret (v := .agg #[.int .i64 0, .int .i64 0, .string ⟨#[]⟩, .int .i64 0, .int .i64 0]) (by simp [results, Tryz.results59, go_sem, e0, e1, e2, e3, e4]) rfl ?_
  rw [HN.out]
  refine ⟨A, c, rfl, ?_, ?_, ?_, ?_⟩
  · iterate 5 refine row_past ?_ (by omega)
    exact (row5_set (row5_set Y0.out).1).2.2.2
  · iterate 7 refine OwnL.set' ?_ (by intro g hg; have := HFX.out g hg; simp <;> omega) _
    exact HO0.out
  · iterate 7 refine Below.setCell ?_ (by simp <;> omega) _
    exact hb0
  · iterate 7 refine only_set ?_ (by first | exact .inl rfl | exact .inr (.inr (by simp <;> omega))) _
    exact only_below b0
set_option maxHeartbeats 2000000 in
theorem iDo_stop0 (G : Nat) (k m key t : ByteArray) (v : Int) (s : Value) (l : List Pu.CellD) (n : Int) (base : Nat) (w : World) (R : Pu.CoreD × Pu.ReplyD) (hg : w.heap[G]? = some (.cells #[.string k, .bool false, .bool false, s, .int .i64 n] 31 (0, 0) : Obj)) (hs : OwnL w base 63 2 cellEn s l) (hbG : base ≤ G) (hc : Pu.cellsB l = true) (hn0 : 0 ≤ n) (hn1 : n ≤ 999) (hStart : (m.toList == [83, 116, 97, 114, 116]) = false) (hStop : (m.toList == [83, 116, 111, 112]) = true) (hGet : (m.toList == [71, 101, 116]) = false) (hPut : (m.toList == [80, 117, 116]) = false) (hTell : (m.toList == [84, 101, 108, 108]) = false) (hHear : (m.toList == [72, 101, 97, 114]) = false) (hSave : (m.toList == [83, 97, 118, 101]) = false) (hLoad : (m.toList == [76, 111, 97, 100]) = false) (hHeal : (m.toList == [72, 101, 97, 108]) = false) (HN : Hid (R = (⟨k, false, false, l, n⟩, Pu.rp 2 0))) :
    Calls Tryz.prog 59 #[.pointer (some ⟨G, 0, none⟩), .agg #[.string m, .string key, .int .i64 v, .string t]] w fun e w' => ∃ A' c', e = .returned (replyV R.2) ∧ w'.heap[G]? = some (.cells #[.string R.1.kind, .bool R.1.on, .bool R.1.broken, .slice A' R.1.cells.length c', .int .i64 R.1.count] 31 (0, 0)) ∧ OwnL w' base 63 2 cellEn (.slice A' R.1.cells.length c') R.1.cells ∧ Below base w w' ∧ Only G s.ownBlock w w' := by
  obtain ⟨A, c, rfl⟩ := hs.shape
  have HS := hide hs
  have hGs : G < w.heap.size := (Array.getElem?_eq_some_iff.1 hg).1
  have HCC := hide hc
  have E0 := hide (show ((w.alloc (.cells #[.string m, .string key, .int .i64 v, .string t] 37 : Obj)).alloc (.cells #[.int .i64 0, .int .i64 0, .string ⟨#[]⟩, .int .i64 0, .int .i64 0] 33 : Obj)).heap[G]? = some (.cells #[.string k, .bool false, .bool false, .slice A l.length c, .int .i64 n] 31 (0, 0) : Obj) from heap_old (by simp <;> omega) (heap_old (by omega) hg))
  clear hs hg hc
  go_enter Tryz.func59, Tryz.ntmps59
  go_upto_region 1 with fail
  obtain ⟨w0, hw0⟩ : ∃ w0, Hid ((w.alloc (.cells #[.string m, .string key, .int .i64 v, .string t] 37 : Obj)).alloc (.cells #[.int .i64 0, .int .i64 0, .string ⟨#[]⟩, .int .i64 0, .int .i64 0] 33 : Obj) = w0) := ⟨_, rfl⟩
  rw [hw0.out]
  have b0 : Below w.heap.size w w0 := by rw [← hw0.out]; exact below_alloc (below_alloc (Below.refl _ _) _) _
  have Y0 := hide (show w0.heap[G]? = some (.cells #[.string k, .bool false, .bool false, .slice A l.length c, .int .i64 n] 31 (0, 0) : Obj) by rw [← hw0.out]; exact E0.out)
  have Y1 := hide (show w0.heap[w.heap.size]? = some (.cells #[.string m, .string key, .int .i64 v, .string t] 37 : Obj) by rw [← hw0.out]; exact heap_old (by simp) (heap_new rfl))
  have Y2 := hide (show w0.heap[w.heap.size + 1]? = some (.cells #[.int .i64 0, .int .i64 0, .string ⟨#[]⟩, .int .i64 0, .int .i64 0] 33 : Obj) by rw [← hw0.out]; exact heap_new (by simp))
  have HO0 := hide (OwnL.below HS.out b0 (Nat.le_refl _))
  have hb0 : Below base w w0 := b0.mono (by omega)
  clear E0
  have HFX := hide (fun g hg => And.intro (own_ne HO0.out Y0.out (by decide) g hg) (own_ne HO0.out Y2.out (by decide) g hg))
  obtain ⟨_, _, _, _, _, _⟩ := five_cells Y0.out
  obtain ⟨_, _, _, _, _⟩ := four_cells Y1.out
  obtain ⟨e0, e1, e2, e3, e4, ef⟩ := five_cells Y2.out
  have hx21a : ¬ G = w.heap.size := by omega
  have hx21b : ¬ w.heap.size = G := by omega
  have hx23a : ¬ G = w.heap.size + 1 := by omega
  have hx23b : ¬ w.heap.size + 1 = G := by omega
  go_wp2
  refine bodyPost_ret (v := .agg #[.int .i64 2, .int .i64 0, .string ⟨#[]⟩, .int .i64 0, .int .i64 0]) (by simp [results, Tryz.results59, go_sem, e0, e1, e2, e3, e4]) rfl ?_
  rw [HN.out]
  refine ⟨A, c, rfl, ?_, ?_, ?_, ?_⟩
  · iterate 5 refine row_past ?_ (by omega)
    exact Y0.out
  · iterate 5 refine OwnL.set' ?_ (by intro g hg; have := HFX.out g hg; simp <;> omega) _
    exact HO0.out
  · iterate 5 refine Below.setCell ?_ (by simp <;> omega) _
    exact hb0
  · iterate 5 refine only_set ?_ (by first | exact .inl rfl | exact .inr (.inr (by simp <;> omega))) _
    exact only_below b0
set_option maxHeartbeats 2000000 in
theorem iDo_stop1 (G : Nat) (k m key t : ByteArray) (v : Int) (s : Value) (l : List Pu.CellD) (n : Int) (base : Nat) (w : World) (R : Pu.CoreD × Pu.ReplyD) (hg : w.heap[G]? = some (.cells #[.string k, .bool true, .bool false, s, .int .i64 n] 31 (0, 0) : Obj)) (hs : OwnL w base 63 2 cellEn s l) (hbG : base ≤ G) (hc : Pu.cellsB l = true) (hn0 : 0 ≤ n) (hn1 : n ≤ 999) (hStart : (m.toList == [83, 116, 97, 114, 116]) = false) (hStop : (m.toList == [83, 116, 111, 112]) = true) (hGet : (m.toList == [71, 101, 116]) = false) (hPut : (m.toList == [80, 117, 116]) = false) (hTell : (m.toList == [84, 101, 108, 108]) = false) (hHear : (m.toList == [72, 101, 97, 114]) = false) (hSave : (m.toList == [83, 97, 118, 101]) = false) (hLoad : (m.toList == [76, 111, 97, 100]) = false) (hHeal : (m.toList == [72, 101, 97, 108]) = false) (HN : Hid (R = (⟨k, false, false, l, n⟩, Pu.rp 0 0))) :
    Calls Tryz.prog 59 #[.pointer (some ⟨G, 0, none⟩), .agg #[.string m, .string key, .int .i64 v, .string t]] w fun e w' => ∃ A' c', e = .returned (replyV R.2) ∧ w'.heap[G]? = some (.cells #[.string R.1.kind, .bool R.1.on, .bool R.1.broken, .slice A' R.1.cells.length c', .int .i64 R.1.count] 31 (0, 0)) ∧ OwnL w' base 63 2 cellEn (.slice A' R.1.cells.length c') R.1.cells ∧ Below base w w' ∧ Only G s.ownBlock w w' := by
  obtain ⟨A, c, rfl⟩ := hs.shape
  have HS := hide hs
  have hGs : G < w.heap.size := (Array.getElem?_eq_some_iff.1 hg).1
  have HCC := hide hc
  have E0 := hide (show ((w.alloc (.cells #[.string m, .string key, .int .i64 v, .string t] 37 : Obj)).alloc (.cells #[.int .i64 0, .int .i64 0, .string ⟨#[]⟩, .int .i64 0, .int .i64 0] 33 : Obj)).heap[G]? = some (.cells #[.string k, .bool true, .bool false, .slice A l.length c, .int .i64 n] 31 (0, 0) : Obj) from heap_old (by simp <;> omega) (heap_old (by omega) hg))
  clear hs hg hc
  go_enter Tryz.func59, Tryz.ntmps59
  go_upto_region 1 with fail
  obtain ⟨w0, hw0⟩ : ∃ w0, Hid ((w.alloc (.cells #[.string m, .string key, .int .i64 v, .string t] 37 : Obj)).alloc (.cells #[.int .i64 0, .int .i64 0, .string ⟨#[]⟩, .int .i64 0, .int .i64 0] 33 : Obj) = w0) := ⟨_, rfl⟩
  rw [hw0.out]
  have b0 : Below w.heap.size w w0 := by rw [← hw0.out]; exact below_alloc (below_alloc (Below.refl _ _) _) _
  have Y0 := hide (show w0.heap[G]? = some (.cells #[.string k, .bool true, .bool false, .slice A l.length c, .int .i64 n] 31 (0, 0) : Obj) by rw [← hw0.out]; exact E0.out)
  have Y1 := hide (show w0.heap[w.heap.size]? = some (.cells #[.string m, .string key, .int .i64 v, .string t] 37 : Obj) by rw [← hw0.out]; exact heap_old (by simp) (heap_new rfl))
  have Y2 := hide (show w0.heap[w.heap.size + 1]? = some (.cells #[.int .i64 0, .int .i64 0, .string ⟨#[]⟩, .int .i64 0, .int .i64 0] 33 : Obj) by rw [← hw0.out]; exact heap_new (by simp))
  have HO0 := hide (OwnL.below HS.out b0 (Nat.le_refl _))
  have hb0 : Below base w w0 := b0.mono (by omega)
  clear E0
  have HFX := hide (fun g hg => And.intro (own_ne HO0.out Y0.out (by decide) g hg) (own_ne HO0.out Y2.out (by decide) g hg))
  obtain ⟨_, _, _, _, _, _⟩ := five_cells Y0.out
  obtain ⟨_, _, _, _, _⟩ := four_cells Y1.out
  obtain ⟨e0, e1, e2, e3, e4, ef⟩ := five_cells Y2.out
  have hx21a : ¬ G = w.heap.size := by omega
  have hx21b : ¬ w.heap.size = G := by omega
  have hx23a : ¬ G = w.heap.size + 1 := by omega
  have hx23b : ¬ w.heap.size + 1 = G := by omega
  go_wp2
  refine bodyPost_ret (v := .agg #[.int .i64 0, .int .i64 0, .string ⟨#[]⟩, .int .i64 0, .int .i64 0]) (by simp [results, Tryz.results59, go_sem, e0, e1, e2, e3, e4]) rfl ?_
  rw [HN.out]
  refine ⟨A, c, rfl, ?_, ?_, ?_, ?_⟩
  · iterate 5 refine row_past ?_ (by omega)
    exact (row5_set Y0.out).1
  · iterate 6 refine OwnL.set' ?_ (by intro g hg; have := HFX.out g hg; simp <;> omega) _
    exact HO0.out
  · iterate 6 refine Below.setCell ?_ (by simp <;> omega) _
    exact hb0
  · iterate 6 refine only_set ?_ (by first | exact .inl rfl | exact .inr (.inr (by simp <;> omega))) _
    exact only_below b0
set_option maxHeartbeats 2000000 in
theorem iDo_tellf (G : Nat) (k m key t : ByteArray) (v : Int) (o : Bool) (s : Value) (l : List Pu.CellD) (n : Int) (base : Nat) (w : World) (R : Pu.CoreD × Pu.ReplyD) (hg : w.heap[G]? = some (.cells #[.string k, .bool o, .bool false, s, .int .i64 n] 31 (0, 0) : Obj)) (hs : OwnL w base 63 2 cellEn s l) (hbG : base ≤ G) (hc : Pu.cellsB l = true) (hn0 : 0 ≤ n) (hn1 : n ≤ 999) (hStart : (m.toList == [83, 116, 97, 114, 116]) = false) (hStop : (m.toList == [83, 116, 111, 112]) = false) (hGet : (m.toList == [71, 101, 116]) = false) (hPut : (m.toList == [80, 117, 116]) = false) (hTell : (m.toList == [84, 101, 108, 108]) = true) (hHear : (m.toList == [72, 101, 97, 114]) = false) (hSave : (m.toList == [83, 97, 118, 101]) = false) (hLoad : (m.toList == [76, 111, 97, 100]) = false) (hHeal : (m.toList == [72, 101, 97, 108]) = false) (HN : Hid (R = (⟨k, o, false, l, n⟩, Pu.rp 0 n))) :
    Calls Tryz.prog 59 #[.pointer (some ⟨G, 0, none⟩), .agg #[.string m, .string key, .int .i64 v, .string t]] w fun e w' => ∃ A' c', e = .returned (replyV R.2) ∧ w'.heap[G]? = some (.cells #[.string R.1.kind, .bool R.1.on, .bool R.1.broken, .slice A' R.1.cells.length c', .int .i64 R.1.count] 31 (0, 0)) ∧ OwnL w' base 63 2 cellEn (.slice A' R.1.cells.length c') R.1.cells ∧ Below base w w' ∧ Only G s.ownBlock w w' := by
  obtain ⟨A, c, rfl⟩ := hs.shape
  have HS := hide hs
  have hGs : G < w.heap.size := (Array.getElem?_eq_some_iff.1 hg).1
  have HCC := hide hc
  have E0 := hide (show ((w.alloc (.cells #[.string m, .string key, .int .i64 v, .string t] 37 : Obj)).alloc (.cells #[.int .i64 0, .int .i64 0, .string ⟨#[]⟩, .int .i64 0, .int .i64 0] 33 : Obj)).heap[G]? = some (.cells #[.string k, .bool o, .bool false, .slice A l.length c, .int .i64 n] 31 (0, 0) : Obj) from heap_old (by simp <;> omega) (heap_old (by omega) hg))
  clear hs hg hc
  go_enter Tryz.func59, Tryz.ntmps59
  go_upto_region 1 with fail
  obtain ⟨w0, hw0⟩ : ∃ w0, Hid ((w.alloc (.cells #[.string m, .string key, .int .i64 v, .string t] 37 : Obj)).alloc (.cells #[.int .i64 0, .int .i64 0, .string ⟨#[]⟩, .int .i64 0, .int .i64 0] 33 : Obj) = w0) := ⟨_, rfl⟩
  rw [hw0.out]
  have b0 : Below w.heap.size w w0 := by rw [← hw0.out]; exact below_alloc (below_alloc (Below.refl _ _) _) _
  have Y0 := hide (show w0.heap[G]? = some (.cells #[.string k, .bool o, .bool false, .slice A l.length c, .int .i64 n] 31 (0, 0) : Obj) by rw [← hw0.out]; exact E0.out)
  have Y1 := hide (show w0.heap[w.heap.size]? = some (.cells #[.string m, .string key, .int .i64 v, .string t] 37 : Obj) by rw [← hw0.out]; exact heap_old (by simp) (heap_new rfl))
  have Y2 := hide (show w0.heap[w.heap.size + 1]? = some (.cells #[.int .i64 0, .int .i64 0, .string ⟨#[]⟩, .int .i64 0, .int .i64 0] 33 : Obj) by rw [← hw0.out]; exact heap_new (by simp))
  have HO0 := hide (OwnL.below HS.out b0 (Nat.le_refl _))
  have hb0 : Below base w w0 := b0.mono (by omega)
  clear E0
  have HFX := hide (fun g hg => And.intro (own_ne HO0.out Y0.out (by decide) g hg) (own_ne HO0.out Y2.out (by decide) g hg))
  obtain ⟨_, _, _, _, _, _⟩ := five_cells Y0.out
  obtain ⟨_, _, _, _, _⟩ := four_cells Y1.out
  obtain ⟨e0, e1, e2, e3, e4, ef⟩ := five_cells Y2.out
  have hx21a : ¬ G = w.heap.size := by omega
  have hx21b : ¬ w.heap.size = G := by omega
  have hx23a : ¬ G = w.heap.size + 1 := by omega
  have hx23b : ¬ w.heap.size + 1 = G := by omega
  go_wp2
  refine bodyPost_ret (v := .agg #[.int .i64 0, .int .i64 n, .string ⟨#[]⟩, .int .i64 0, .int .i64 0]) (by simp [results, Tryz.results59, go_sem, e0, e1, e2, e3, e4]) rfl ?_
  rw [HN.out]
  refine ⟨A, c, rfl, ?_, ?_, ?_, ?_⟩
  · iterate 5 refine row_past ?_ (by omega)
    exact Y0.out
  · iterate 5 refine OwnL.set' ?_ (by intro g hg; have := HFX.out g hg; simp <;> omega) _
    exact HO0.out
  · iterate 5 refine Below.setCell ?_ (by simp <;> omega) _
    exact hb0
  · iterate 5 refine only_set ?_ (by first | exact .inl rfl | exact .inr (.inr (by simp <;> omega))) _
    exact only_below b0
set_option maxHeartbeats 2000000 in
theorem iDo_healf (G : Nat) (k m key t : ByteArray) (v : Int) (o : Bool) (s : Value) (l : List Pu.CellD) (n : Int) (base : Nat) (w : World) (R : Pu.CoreD × Pu.ReplyD) (hg : w.heap[G]? = some (.cells #[.string k, .bool o, .bool false, s, .int .i64 n] 31 (0, 0) : Obj)) (hs : OwnL w base 63 2 cellEn s l) (hbG : base ≤ G) (hc : Pu.cellsB l = true) (hn0 : 0 ≤ n) (hn1 : n ≤ 999) (hStart : (m.toList == [83, 116, 97, 114, 116]) = false) (hStop : (m.toList == [83, 116, 111, 112]) = false) (hGet : (m.toList == [71, 101, 116]) = false) (hPut : (m.toList == [80, 117, 116]) = false) (hTell : (m.toList == [84, 101, 108, 108]) = false) (hHear : (m.toList == [72, 101, 97, 114]) = false) (hSave : (m.toList == [83, 97, 118, 101]) = false) (hLoad : (m.toList == [76, 111, 97, 100]) = false) (hHeal : (m.toList == [72, 101, 97, 108]) = true) (HN : Hid (R = (⟨k, false, false, l, n⟩, Pu.rp 0 0))) :
    Calls Tryz.prog 59 #[.pointer (some ⟨G, 0, none⟩), .agg #[.string m, .string key, .int .i64 v, .string t]] w fun e w' => ∃ A' c', e = .returned (replyV R.2) ∧ w'.heap[G]? = some (.cells #[.string R.1.kind, .bool R.1.on, .bool R.1.broken, .slice A' R.1.cells.length c', .int .i64 R.1.count] 31 (0, 0)) ∧ OwnL w' base 63 2 cellEn (.slice A' R.1.cells.length c') R.1.cells ∧ Below base w w' ∧ Only G s.ownBlock w w' := by
  obtain ⟨A, c, rfl⟩ := hs.shape
  have HS := hide hs
  have hGs : G < w.heap.size := (Array.getElem?_eq_some_iff.1 hg).1
  have HCC := hide hc
  have E0 := hide (show ((w.alloc (.cells #[.string m, .string key, .int .i64 v, .string t] 37 : Obj)).alloc (.cells #[.int .i64 0, .int .i64 0, .string ⟨#[]⟩, .int .i64 0, .int .i64 0] 33 : Obj)).heap[G]? = some (.cells #[.string k, .bool o, .bool false, .slice A l.length c, .int .i64 n] 31 (0, 0) : Obj) from heap_old (by simp <;> omega) (heap_old (by omega) hg))
  clear hs hg hc
  go_enter Tryz.func59, Tryz.ntmps59
  go_upto_region 1 with fail
  obtain ⟨w0, hw0⟩ : ∃ w0, Hid ((w.alloc (.cells #[.string m, .string key, .int .i64 v, .string t] 37 : Obj)).alloc (.cells #[.int .i64 0, .int .i64 0, .string ⟨#[]⟩, .int .i64 0, .int .i64 0] 33 : Obj) = w0) := ⟨_, rfl⟩
  rw [hw0.out]
  have b0 : Below w.heap.size w w0 := by rw [← hw0.out]; exact below_alloc (below_alloc (Below.refl _ _) _) _
  have Y0 := hide (show w0.heap[G]? = some (.cells #[.string k, .bool o, .bool false, .slice A l.length c, .int .i64 n] 31 (0, 0) : Obj) by rw [← hw0.out]; exact E0.out)
  have Y1 := hide (show w0.heap[w.heap.size]? = some (.cells #[.string m, .string key, .int .i64 v, .string t] 37 : Obj) by rw [← hw0.out]; exact heap_old (by simp) (heap_new rfl))
  have Y2 := hide (show w0.heap[w.heap.size + 1]? = some (.cells #[.int .i64 0, .int .i64 0, .string ⟨#[]⟩, .int .i64 0, .int .i64 0] 33 : Obj) by rw [← hw0.out]; exact heap_new (by simp))
  have HO0 := hide (OwnL.below HS.out b0 (Nat.le_refl _))
  have hb0 : Below base w w0 := b0.mono (by omega)
  clear E0
  have HFX := hide (fun g hg => And.intro (own_ne HO0.out Y0.out (by decide) g hg) (own_ne HO0.out Y2.out (by decide) g hg))
  obtain ⟨_, _, _, _, _, _⟩ := five_cells Y0.out
  obtain ⟨_, _, _, _, _⟩ := four_cells Y1.out
  obtain ⟨e0, e1, e2, e3, e4, ef⟩ := five_cells Y2.out
  have hx21a : ¬ G = w.heap.size := by omega
  have hx21b : ¬ w.heap.size = G := by omega
  have hx23a : ¬ G = w.heap.size + 1 := by omega
  have hx23b : ¬ w.heap.size + 1 = G := by omega
  go_wp2
  refine bodyPost_ret (v := .agg #[.int .i64 0, .int .i64 0, .string ⟨#[]⟩, .int .i64 0, .int .i64 0]) (by simp [results, Tryz.results59, go_sem, e0, e1, e2, e3, e4]) rfl ?_
  rw [HN.out]
  refine ⟨A, c, rfl, ?_, ?_, ?_, ?_⟩
  · iterate 5 refine row_past ?_ (by omega)
    exact (row5_set (row5_set Y0.out).1).2.1
  · iterate 7 refine OwnL.set' ?_ (by intro g hg; have := HFX.out g hg; simp <;> omega) _
    exact HO0.out
  · iterate 7 refine Below.setCell ?_ (by simp <;> omega) _
    exact hb0
  · iterate 7 refine only_set ?_ (by first | exact .inl rfl | exact .inr (.inr (by simp <;> omega))) _
    exact only_below b0
set_option maxHeartbeats 2000000 in
theorem iDo_tellt (G : Nat) (k m key t : ByteArray) (v : Int) (o : Bool) (s : Value) (l : List Pu.CellD) (n : Int) (base : Nat) (w : World) (R : Pu.CoreD × Pu.ReplyD) (hg : w.heap[G]? = some (.cells #[.string k, .bool o, .bool true, s, .int .i64 n] 31 (0, 0) : Obj)) (hs : OwnL w base 63 2 cellEn s l) (hbG : base ≤ G) (hc : Pu.cellsB l = true) (hn0 : 0 ≤ n) (hn1 : n ≤ 999) (hStart : (m.toList == [83, 116, 97, 114, 116]) = false) (hStop : (m.toList == [83, 116, 111, 112]) = false) (hGet : (m.toList == [71, 101, 116]) = false) (hPut : (m.toList == [80, 117, 116]) = false) (hTell : (m.toList == [84, 101, 108, 108]) = true) (hHear : (m.toList == [72, 101, 97, 114]) = false) (hSave : (m.toList == [83, 97, 118, 101]) = false) (hLoad : (m.toList == [76, 111, 97, 100]) = false) (hHeal : (m.toList == [72, 101, 97, 108]) = false) (HN : Hid (R = (⟨k, o, true, l, n⟩, Pu.rp 0 n))) :
    Calls Tryz.prog 59 #[.pointer (some ⟨G, 0, none⟩), .agg #[.string m, .string key, .int .i64 v, .string t]] w fun e w' => ∃ A' c', e = .returned (replyV R.2) ∧ w'.heap[G]? = some (.cells #[.string R.1.kind, .bool R.1.on, .bool R.1.broken, .slice A' R.1.cells.length c', .int .i64 R.1.count] 31 (0, 0)) ∧ OwnL w' base 63 2 cellEn (.slice A' R.1.cells.length c') R.1.cells ∧ Below base w w' ∧ Only G s.ownBlock w w' := by
  obtain ⟨A, c, rfl⟩ := hs.shape
  have HS := hide hs
  have hGs : G < w.heap.size := (Array.getElem?_eq_some_iff.1 hg).1
  have HCC := hide hc
  have E0 := hide (show ((w.alloc (.cells #[.string m, .string key, .int .i64 v, .string t] 37 : Obj)).alloc (.cells #[.int .i64 0, .int .i64 0, .string ⟨#[]⟩, .int .i64 0, .int .i64 0] 33 : Obj)).heap[G]? = some (.cells #[.string k, .bool o, .bool true, .slice A l.length c, .int .i64 n] 31 (0, 0) : Obj) from heap_old (by simp <;> omega) (heap_old (by omega) hg))
  clear hs hg hc
  go_enter Tryz.func59, Tryz.ntmps59
  go_upto_region 1 with fail
  obtain ⟨w0, hw0⟩ : ∃ w0, Hid ((w.alloc (.cells #[.string m, .string key, .int .i64 v, .string t] 37 : Obj)).alloc (.cells #[.int .i64 0, .int .i64 0, .string ⟨#[]⟩, .int .i64 0, .int .i64 0] 33 : Obj) = w0) := ⟨_, rfl⟩
  rw [hw0.out]
  have b0 : Below w.heap.size w w0 := by rw [← hw0.out]; exact below_alloc (below_alloc (Below.refl _ _) _) _
  have Y0 := hide (show w0.heap[G]? = some (.cells #[.string k, .bool o, .bool true, .slice A l.length c, .int .i64 n] 31 (0, 0) : Obj) by rw [← hw0.out]; exact E0.out)
  have Y1 := hide (show w0.heap[w.heap.size]? = some (.cells #[.string m, .string key, .int .i64 v, .string t] 37 : Obj) by rw [← hw0.out]; exact heap_old (by simp) (heap_new rfl))
  have Y2 := hide (show w0.heap[w.heap.size + 1]? = some (.cells #[.int .i64 0, .int .i64 0, .string ⟨#[]⟩, .int .i64 0, .int .i64 0] 33 : Obj) by rw [← hw0.out]; exact heap_new (by simp))
  have HO0 := hide (OwnL.below HS.out b0 (Nat.le_refl _))
  have hb0 : Below base w w0 := b0.mono (by omega)
  clear E0
  have HFX := hide (fun g hg => And.intro (own_ne HO0.out Y0.out (by decide) g hg) (own_ne HO0.out Y2.out (by decide) g hg))
  obtain ⟨_, _, _, _, _, _⟩ := five_cells Y0.out
  obtain ⟨_, _, _, _, _⟩ := four_cells Y1.out
  obtain ⟨e0, e1, e2, e3, e4, ef⟩ := five_cells Y2.out
  have hx21a : ¬ G = w.heap.size := by omega
  have hx21b : ¬ w.heap.size = G := by omega
  have hx23a : ¬ G = w.heap.size + 1 := by omega
  have hx23b : ¬ w.heap.size + 1 = G := by omega
  go_wp2
  refine bodyPost_ret (v := .agg #[.int .i64 0, .int .i64 n, .string ⟨#[]⟩, .int .i64 0, .int .i64 0]) (by simp [results, Tryz.results59, go_sem, e0, e1, e2, e3, e4]) rfl ?_
  rw [HN.out]
  refine ⟨A, c, rfl, ?_, ?_, ?_, ?_⟩
  · iterate 5 refine row_past ?_ (by omega)
    exact Y0.out
  · iterate 5 refine OwnL.set' ?_ (by intro g hg; have := HFX.out g hg; simp <;> omega) _
    exact HO0.out
  · iterate 5 refine Below.setCell ?_ (by simp <;> omega) _
    exact hb0
  · iterate 5 refine only_set ?_ (by first | exact .inl rfl | exact .inr (.inr (by simp <;> omega))) _
    exact only_below b0
set_option maxHeartbeats 2000000 in
theorem iDo_healt (G : Nat) (k m key t : ByteArray) (v : Int) (o : Bool) (s : Value) (l : List Pu.CellD) (n : Int) (base : Nat) (w : World) (R : Pu.CoreD × Pu.ReplyD) (hg : w.heap[G]? = some (.cells #[.string k, .bool o, .bool true, s, .int .i64 n] 31 (0, 0) : Obj)) (hs : OwnL w base 63 2 cellEn s l) (hbG : base ≤ G) (hc : Pu.cellsB l = true) (hn0 : 0 ≤ n) (hn1 : n ≤ 999) (hStart : (m.toList == [83, 116, 97, 114, 116]) = false) (hStop : (m.toList == [83, 116, 111, 112]) = false) (hGet : (m.toList == [71, 101, 116]) = false) (hPut : (m.toList == [80, 117, 116]) = false) (hTell : (m.toList == [84, 101, 108, 108]) = false) (hHear : (m.toList == [72, 101, 97, 114]) = false) (hSave : (m.toList == [83, 97, 118, 101]) = false) (hLoad : (m.toList == [76, 111, 97, 100]) = false) (hHeal : (m.toList == [72, 101, 97, 108]) = true) (HN : Hid (R = (⟨k, false, false, l, n⟩, Pu.rp 0 0))) :
    Calls Tryz.prog 59 #[.pointer (some ⟨G, 0, none⟩), .agg #[.string m, .string key, .int .i64 v, .string t]] w fun e w' => ∃ A' c', e = .returned (replyV R.2) ∧ w'.heap[G]? = some (.cells #[.string R.1.kind, .bool R.1.on, .bool R.1.broken, .slice A' R.1.cells.length c', .int .i64 R.1.count] 31 (0, 0)) ∧ OwnL w' base 63 2 cellEn (.slice A' R.1.cells.length c') R.1.cells ∧ Below base w w' ∧ Only G s.ownBlock w w' := by
  obtain ⟨A, c, rfl⟩ := hs.shape
  have HS := hide hs
  have hGs : G < w.heap.size := (Array.getElem?_eq_some_iff.1 hg).1
  have HCC := hide hc
  have E0 := hide (show ((w.alloc (.cells #[.string m, .string key, .int .i64 v, .string t] 37 : Obj)).alloc (.cells #[.int .i64 0, .int .i64 0, .string ⟨#[]⟩, .int .i64 0, .int .i64 0] 33 : Obj)).heap[G]? = some (.cells #[.string k, .bool o, .bool true, .slice A l.length c, .int .i64 n] 31 (0, 0) : Obj) from heap_old (by simp <;> omega) (heap_old (by omega) hg))
  clear hs hg hc
  go_enter Tryz.func59, Tryz.ntmps59
  go_upto_region 1 with fail
  obtain ⟨w0, hw0⟩ : ∃ w0, Hid ((w.alloc (.cells #[.string m, .string key, .int .i64 v, .string t] 37 : Obj)).alloc (.cells #[.int .i64 0, .int .i64 0, .string ⟨#[]⟩, .int .i64 0, .int .i64 0] 33 : Obj) = w0) := ⟨_, rfl⟩
  rw [hw0.out]
  have b0 : Below w.heap.size w w0 := by rw [← hw0.out]; exact below_alloc (below_alloc (Below.refl _ _) _) _
  have Y0 := hide (show w0.heap[G]? = some (.cells #[.string k, .bool o, .bool true, .slice A l.length c, .int .i64 n] 31 (0, 0) : Obj) by rw [← hw0.out]; exact E0.out)
  have Y1 := hide (show w0.heap[w.heap.size]? = some (.cells #[.string m, .string key, .int .i64 v, .string t] 37 : Obj) by rw [← hw0.out]; exact heap_old (by simp) (heap_new rfl))
  have Y2 := hide (show w0.heap[w.heap.size + 1]? = some (.cells #[.int .i64 0, .int .i64 0, .string ⟨#[]⟩, .int .i64 0, .int .i64 0] 33 : Obj) by rw [← hw0.out]; exact heap_new (by simp))
  have HO0 := hide (OwnL.below HS.out b0 (Nat.le_refl _))
  have hb0 : Below base w w0 := b0.mono (by omega)
  clear E0
  have HFX := hide (fun g hg => And.intro (own_ne HO0.out Y0.out (by decide) g hg) (own_ne HO0.out Y2.out (by decide) g hg))
  obtain ⟨_, _, _, _, _, _⟩ := five_cells Y0.out
  obtain ⟨_, _, _, _, _⟩ := four_cells Y1.out
  obtain ⟨e0, e1, e2, e3, e4, ef⟩ := five_cells Y2.out
  have hx21a : ¬ G = w.heap.size := by omega
  have hx21b : ¬ w.heap.size = G := by omega
  have hx23a : ¬ G = w.heap.size + 1 := by omega
  have hx23b : ¬ w.heap.size + 1 = G := by omega
  go_wp2
  refine bodyPost_ret (v := .agg #[.int .i64 0, .int .i64 0, .string ⟨#[]⟩, .int .i64 0, .int .i64 0]) (by simp [results, Tryz.results59, go_sem, e0, e1, e2, e3, e4]) rfl ?_
  rw [HN.out]
  refine ⟨A, c, rfl, ?_, ?_, ?_, ?_⟩
  · iterate 5 refine row_past ?_ (by omega)
    exact (row5_set (row5_set Y0.out).1).2.1
  · iterate 7 refine OwnL.set' ?_ (by intro g hg; have := HFX.out g hg; simp <;> omega) _
    exact HO0.out
  · iterate 7 refine Below.setCell ?_ (by simp <;> omega) _
    exact hb0
  · iterate 7 refine only_set ?_ (by first | exact .inl rfl | exact .inr (.inr (by simp <;> omega))) _
    exact only_below b0
set_option maxHeartbeats 2000000 in
theorem iDo_hear1 (G : Nat) (k m key t : ByteArray) (o : Bool) (s : Value) (l : List Pu.CellD) (n : Int) (base : Nat) (w : World) (R : Pu.CoreD × Pu.ReplyD) (hg : w.heap[G]? = some (.cells #[.string k, .bool o, .bool false, s, .int .i64 n] 31 (0, 0) : Obj)) (hs : OwnL w base 63 2 cellEn s l) (hbG : base ≤ G) (hc : Pu.cellsB l = true) (hn0 : 0 ≤ n) (hn1 : n ≤ 999) (hStart : (m.toList == [83, 116, 97, 114, 116]) = false) (hStop : (m.toList == [83, 116, 111, 112]) = false) (hGet : (m.toList == [71, 101, 116]) = false) (hPut : (m.toList == [80, 117, 116]) = false) (hTell : (m.toList == [84, 101, 108, 108]) = false) (hHear : (m.toList == [72, 101, 97, 114]) = true) (hSave : (m.toList == [83, 97, 118, 101]) = false) (hLoad : (m.toList == [76, 111, 97, 100]) = false) (hHeal : (m.toList == [72, 101, 97, 108]) = false) (HN : Hid (R = (⟨k, true, false, l, Pu.upF n⟩, Pu.rp 0 (Pu.upF n)))) :
    Calls Tryz.prog 59 #[.pointer (some ⟨G, 0, none⟩), .agg #[.string m, .string key, .int .i64 1, .string t]] w fun e w' => ∃ A' c', e = .returned (replyV R.2) ∧ w'.heap[G]? = some (.cells #[.string R.1.kind, .bool R.1.on, .bool R.1.broken, .slice A' R.1.cells.length c', .int .i64 R.1.count] 31 (0, 0)) ∧ OwnL w' base 63 2 cellEn (.slice A' R.1.cells.length c') R.1.cells ∧ Below base w w' ∧ Only G s.ownBlock w w' := by
  obtain ⟨A, c, rfl⟩ := hs.shape
  have HS := hide hs
  have hGs : G < w.heap.size := (Array.getElem?_eq_some_iff.1 hg).1
  have HCC := hide hc
  have E0 := hide (show ((w.alloc (.cells #[.string m, .string key, .int .i64 1, .string t] 37 : Obj)).alloc (.cells #[.int .i64 0, .int .i64 0, .string ⟨#[]⟩, .int .i64 0, .int .i64 0] 33 : Obj)).heap[G]? = some (.cells #[.string k, .bool o, .bool false, .slice A l.length c, .int .i64 n] 31 (0, 0) : Obj) from heap_old (by simp <;> omega) (heap_old (by omega) hg))
  clear hs hg hc
  go_enter Tryz.func59, Tryz.ntmps59
  go_upto_region 1 with fail
  obtain ⟨w0, hw0⟩ : ∃ w0, Hid ((w.alloc (.cells #[.string m, .string key, .int .i64 1, .string t] 37 : Obj)).alloc (.cells #[.int .i64 0, .int .i64 0, .string ⟨#[]⟩, .int .i64 0, .int .i64 0] 33 : Obj) = w0) := ⟨_, rfl⟩
  rw [hw0.out]
  have b0 : Below w.heap.size w w0 := by rw [← hw0.out]; exact below_alloc (below_alloc (Below.refl _ _) _) _
  have Y0 := hide (show w0.heap[G]? = some (.cells #[.string k, .bool o, .bool false, .slice A l.length c, .int .i64 n] 31 (0, 0) : Obj) by rw [← hw0.out]; exact E0.out)
  have Y1 := hide (show w0.heap[w.heap.size]? = some (.cells #[.string m, .string key, .int .i64 1, .string t] 37 : Obj) by rw [← hw0.out]; exact heap_old (by simp) (heap_new rfl))
  have Y2 := hide (show w0.heap[w.heap.size + 1]? = some (.cells #[.int .i64 0, .int .i64 0, .string ⟨#[]⟩, .int .i64 0, .int .i64 0] 33 : Obj) by rw [← hw0.out]; exact heap_new (by simp))
  have HO0 := hide (OwnL.below HS.out b0 (Nat.le_refl _))
  have hb0 : Below base w w0 := b0.mono (by omega)
  clear E0
  have HFX := hide (fun g hg => And.intro (own_ne HO0.out Y0.out (by decide) g hg) (own_ne HO0.out Y2.out (by decide) g hg))
  obtain ⟨_, _, _, _, _, _⟩ := five_cells Y0.out
  obtain ⟨_, _, _, _, _⟩ := four_cells Y1.out
  obtain ⟨e0, e1, e2, e3, e4, ef⟩ := five_cells Y2.out
  have hx21a : ¬ G = w.heap.size := by omega
  have hx21b : ¬ w.heap.size = G := by omega
  have hx23a : ¬ G = w.heap.size + 1 := by omega
  have hx23b : ¬ w.heap.size + 1 = G := by omega
  go_wp2_with fail
  refine (countUp_c n _ hn0 hn1).mono ?_; rintro e w1 ⟨rfl, rfl⟩
  go_wp2
  refine bodyPost_ret (v := .agg #[.int .i64 0, .int .i64 (Pu.upF n), .string ⟨#[]⟩, .int .i64 0, .int .i64 0]) (by simp [results, Tryz.results59, go_sem, e0, e1, e2, e3, e4]) rfl ?_
  rw [HN.out]
  refine ⟨A, c, rfl, ?_, ?_, ?_, ?_⟩
  · iterate 5 refine row_past ?_ (by omega)
    exact (row5_set (row5_set Y0.out).2.2.2).1
  · iterate 7 refine OwnL.set' ?_ (by intro g hg; have := HFX.out g hg; simp <;> omega) _
    exact HO0.out
  · iterate 7 refine Below.setCell ?_ (by simp <;> omega) _
    exact hb0
  · iterate 7 refine only_set ?_ (by first | exact .inl rfl | exact .inr (.inr (by simp <;> omega))) _
    exact only_below b0
set_option maxHeartbeats 2000000 in
theorem iDo_hear0 (G : Nat) (k m key t : ByteArray) (o : Bool) (s : Value) (l : List Pu.CellD) (n : Int) (base : Nat) (w : World) (R : Pu.CoreD × Pu.ReplyD) (hg : w.heap[G]? = some (.cells #[.string k, .bool o, .bool false, s, .int .i64 n] 31 (0, 0) : Obj)) (hs : OwnL w base 63 2 cellEn s l) (hbG : base ≤ G) (hc : Pu.cellsB l = true) (hn0 : 0 ≤ n) (hn1 : n ≤ 999) (hStart : (m.toList == [83, 116, 97, 114, 116]) = false) (hStop : (m.toList == [83, 116, 111, 112]) = false) (hGet : (m.toList == [71, 101, 116]) = false) (hPut : (m.toList == [80, 117, 116]) = false) (hTell : (m.toList == [84, 101, 108, 108]) = false) (hHear : (m.toList == [72, 101, 97, 114]) = true) (hSave : (m.toList == [83, 97, 118, 101]) = false) (hLoad : (m.toList == [76, 111, 97, 100]) = false) (hHeal : (m.toList == [72, 101, 97, 108]) = false) (HN : Hid (R = (⟨k, false, false, l, Pu.upF n⟩, Pu.rp 0 (Pu.upF n)))) :
    Calls Tryz.prog 59 #[.pointer (some ⟨G, 0, none⟩), .agg #[.string m, .string key, .int .i64 0, .string t]] w fun e w' => ∃ A' c', e = .returned (replyV R.2) ∧ w'.heap[G]? = some (.cells #[.string R.1.kind, .bool R.1.on, .bool R.1.broken, .slice A' R.1.cells.length c', .int .i64 R.1.count] 31 (0, 0)) ∧ OwnL w' base 63 2 cellEn (.slice A' R.1.cells.length c') R.1.cells ∧ Below base w w' ∧ Only G s.ownBlock w w' := by
  obtain ⟨A, c, rfl⟩ := hs.shape
  have HS := hide hs
  have hGs : G < w.heap.size := (Array.getElem?_eq_some_iff.1 hg).1
  have HCC := hide hc
  have E0 := hide (show ((w.alloc (.cells #[.string m, .string key, .int .i64 0, .string t] 37 : Obj)).alloc (.cells #[.int .i64 0, .int .i64 0, .string ⟨#[]⟩, .int .i64 0, .int .i64 0] 33 : Obj)).heap[G]? = some (.cells #[.string k, .bool o, .bool false, .slice A l.length c, .int .i64 n] 31 (0, 0) : Obj) from heap_old (by simp <;> omega) (heap_old (by omega) hg))
  clear hs hg hc
  go_enter Tryz.func59, Tryz.ntmps59
  go_upto_region 1 with fail
  obtain ⟨w0, hw0⟩ : ∃ w0, Hid ((w.alloc (.cells #[.string m, .string key, .int .i64 0, .string t] 37 : Obj)).alloc (.cells #[.int .i64 0, .int .i64 0, .string ⟨#[]⟩, .int .i64 0, .int .i64 0] 33 : Obj) = w0) := ⟨_, rfl⟩
  rw [hw0.out]
  have b0 : Below w.heap.size w w0 := by rw [← hw0.out]; exact below_alloc (below_alloc (Below.refl _ _) _) _
  have Y0 := hide (show w0.heap[G]? = some (.cells #[.string k, .bool o, .bool false, .slice A l.length c, .int .i64 n] 31 (0, 0) : Obj) by rw [← hw0.out]; exact E0.out)
  have Y1 := hide (show w0.heap[w.heap.size]? = some (.cells #[.string m, .string key, .int .i64 0, .string t] 37 : Obj) by rw [← hw0.out]; exact heap_old (by simp) (heap_new rfl))
  have Y2 := hide (show w0.heap[w.heap.size + 1]? = some (.cells #[.int .i64 0, .int .i64 0, .string ⟨#[]⟩, .int .i64 0, .int .i64 0] 33 : Obj) by rw [← hw0.out]; exact heap_new (by simp))
  have HO0 := hide (OwnL.below HS.out b0 (Nat.le_refl _))
  have hb0 : Below base w w0 := b0.mono (by omega)
  clear E0
  have HFX := hide (fun g hg => And.intro (own_ne HO0.out Y0.out (by decide) g hg) (own_ne HO0.out Y2.out (by decide) g hg))
  obtain ⟨_, _, _, _, _, _⟩ := five_cells Y0.out
  obtain ⟨_, _, _, _, _⟩ := four_cells Y1.out
  obtain ⟨e0, e1, e2, e3, e4, ef⟩ := five_cells Y2.out
  have hx21a : ¬ G = w.heap.size := by omega
  have hx21b : ¬ w.heap.size = G := by omega
  have hx23a : ¬ G = w.heap.size + 1 := by omega
  have hx23b : ¬ w.heap.size + 1 = G := by omega
  go_wp2_with fail
  refine (countUp_c n _ hn0 hn1).mono ?_; rintro e w1 ⟨rfl, rfl⟩
  go_wp2
  refine bodyPost_ret (v := .agg #[.int .i64 0, .int .i64 (Pu.upF n), .string ⟨#[]⟩, .int .i64 0, .int .i64 0]) (by simp [results, Tryz.results59, go_sem, e0, e1, e2, e3, e4]) rfl ?_
  rw [HN.out]
  refine ⟨A, c, rfl, ?_, ?_, ?_, ?_⟩
  · iterate 5 refine row_past ?_ (by omega)
    exact (row5_set (row5_set Y0.out).2.2.2).1
  · iterate 7 refine OwnL.set' ?_ (by intro g hg; have := HFX.out g hg; simp <;> omega) _
    exact HO0.out
  · iterate 7 refine Below.setCell ?_ (by simp <;> omega) _
    exact hb0
  · iterate 7 refine only_set ?_ (by first | exact .inl rfl | exact .inr (.inr (by simp <;> omega))) _
    exact only_below b0
set_option maxHeartbeats 2000000 in
theorem iDo_hear (G : Nat) (k m key t : ByteArray) (v : Int) (o : Bool) (s : Value) (l : List Pu.CellD) (n : Int) (base : Nat) (w : World) (R : Pu.CoreD × Pu.ReplyD) (hg : w.heap[G]? = some (.cells #[.string k, .bool o, .bool false, s, .int .i64 n] 31 (0, 0) : Obj)) (hs : OwnL w base 63 2 cellEn s l) (hbG : base ≤ G) (hc : Pu.cellsB l = true) (hn0 : 0 ≤ n) (hn1 : n ≤ 999) (hStart : (m.toList == [83, 116, 97, 114, 116]) = false) (hStop : (m.toList == [83, 116, 111, 112]) = false) (hGet : (m.toList == [71, 101, 116]) = false) (hPut : (m.toList == [80, 117, 116]) = false) (hTell : (m.toList == [84, 101, 108, 108]) = false) (hHear : (m.toList == [72, 101, 97, 114]) = true) (hSave : (m.toList == [83, 97, 118, 101]) = false) (hLoad : (m.toList == [76, 111, 97, 100]) = false) (hHeal : (m.toList == [72, 101, 97, 108]) = false) (h1 : (v == 1) = false) (h0 : (v == 0) = false) (HN : Hid (R = (⟨k, o, false, l, Pu.upF n⟩, Pu.rp 0 (Pu.upF n)))) :
    Calls Tryz.prog 59 #[.pointer (some ⟨G, 0, none⟩), .agg #[.string m, .string key, .int .i64 v, .string t]] w fun e w' => ∃ A' c', e = .returned (replyV R.2) ∧ w'.heap[G]? = some (.cells #[.string R.1.kind, .bool R.1.on, .bool R.1.broken, .slice A' R.1.cells.length c', .int .i64 R.1.count] 31 (0, 0)) ∧ OwnL w' base 63 2 cellEn (.slice A' R.1.cells.length c') R.1.cells ∧ Below base w w' ∧ Only G s.ownBlock w w' := by
  obtain ⟨A, c, rfl⟩ := hs.shape
  have HS := hide hs
  have hGs : G < w.heap.size := (Array.getElem?_eq_some_iff.1 hg).1
  have HCC := hide hc
  have E0 := hide (show ((w.alloc (.cells #[.string m, .string key, .int .i64 v, .string t] 37 : Obj)).alloc (.cells #[.int .i64 0, .int .i64 0, .string ⟨#[]⟩, .int .i64 0, .int .i64 0] 33 : Obj)).heap[G]? = some (.cells #[.string k, .bool o, .bool false, .slice A l.length c, .int .i64 n] 31 (0, 0) : Obj) from heap_old (by simp <;> omega) (heap_old (by omega) hg))
  clear hs hg hc
  go_enter Tryz.func59, Tryz.ntmps59
  go_upto_region 1 with fail
  obtain ⟨w0, hw0⟩ : ∃ w0, Hid ((w.alloc (.cells #[.string m, .string key, .int .i64 v, .string t] 37 : Obj)).alloc (.cells #[.int .i64 0, .int .i64 0, .string ⟨#[]⟩, .int .i64 0, .int .i64 0] 33 : Obj) = w0) := ⟨_, rfl⟩
  rw [hw0.out]
  have b0 : Below w.heap.size w w0 := by rw [← hw0.out]; exact below_alloc (below_alloc (Below.refl _ _) _) _
  have Y0 := hide (show w0.heap[G]? = some (.cells #[.string k, .bool o, .bool false, .slice A l.length c, .int .i64 n] 31 (0, 0) : Obj) by rw [← hw0.out]; exact E0.out)
  have Y1 := hide (show w0.heap[w.heap.size]? = some (.cells #[.string m, .string key, .int .i64 v, .string t] 37 : Obj) by rw [← hw0.out]; exact heap_old (by simp) (heap_new rfl))
  have Y2 := hide (show w0.heap[w.heap.size + 1]? = some (.cells #[.int .i64 0, .int .i64 0, .string ⟨#[]⟩, .int .i64 0, .int .i64 0] 33 : Obj) by rw [← hw0.out]; exact heap_new (by simp))
  have HO0 := hide (OwnL.below HS.out b0 (Nat.le_refl _))
  have hb0 : Below base w w0 := b0.mono (by omega)
  clear E0
  have HFX := hide (fun g hg => And.intro (own_ne HO0.out Y0.out (by decide) g hg) (own_ne HO0.out Y2.out (by decide) g hg))
  obtain ⟨_, _, _, _, _, _⟩ := five_cells Y0.out
  obtain ⟨_, _, _, _, _⟩ := four_cells Y1.out
  obtain ⟨e0, e1, e2, e3, e4, ef⟩ := five_cells Y2.out
  have hx21a : ¬ G = w.heap.size := by omega
  have hx21b : ¬ w.heap.size = G := by omega
  have hx23a : ¬ G = w.heap.size + 1 := by omega
  have hx23b : ¬ w.heap.size + 1 = G := by omega
  have h1x : ¬ v = 1 := by simpa using h1
  have h0x : ¬ v = 0 := by simpa using h0
  go_wp2_with fail
  refine (countUp_c n _ hn0 hn1).mono ?_; rintro e w1 ⟨rfl, rfl⟩
  go_wp2
  refine bodyPost_ret (v := .agg #[.int .i64 0, .int .i64 (Pu.upF n), .string ⟨#[]⟩, .int .i64 0, .int .i64 0]) (by simp [results, Tryz.results59, go_sem, e0, e1, e2, e3, e4]) rfl ?_
  rw [HN.out]
  refine ⟨A, c, rfl, ?_, ?_, ?_, ?_⟩
  · iterate 5 refine row_past ?_ (by omega)
    exact (row5_set Y0.out).2.2.2
  · iterate 6 refine OwnL.set' ?_ (by intro g hg; have := HFX.out g hg; simp <;> omega) _
    exact HO0.out
  · iterate 6 refine Below.setCell ?_ (by simp <;> omega) _
    exact hb0
  · iterate 6 refine only_set ?_ (by first | exact .inl rfl | exact .inr (.inr (by simp <;> omega))) _
    exact only_below b0
set_option maxHeartbeats 2000000 in
theorem iDo_save (G : Nat) (k m key t : ByteArray) (v : Int) (o : Bool) (s : Value) (l : List Pu.CellD) (n : Int) (base : Nat) (w : World) (R : Pu.CoreD × Pu.ReplyD) (hg : w.heap[G]? = some (.cells #[.string k, .bool o, .bool false, s, .int .i64 n] 31 (0, 0) : Obj)) (hs : OwnL w base 63 2 cellEn s l) (hbG : base ≤ G) (hc : Pu.cellsB l = true) (hn0 : 0 ≤ n) (hn1 : n ≤ 999) (hStart : (m.toList == [83, 116, 97, 114, 116]) = false) (hStop : (m.toList == [83, 116, 111, 112]) = false) (hGet : (m.toList == [71, 101, 116]) = false) (hPut : (m.toList == [80, 117, 116]) = false) (hTell : (m.toList == [84, 101, 108, 108]) = false) (hHear : (m.toList == [72, 101, 97, 114]) = false) (hSave : (m.toList == [83, 97, 118, 101]) = true) (hLoad : (m.toList == [76, 111, 97, 100]) = false) (hHeal : (m.toList == [72, 101, 97, 108]) = false) (hM : MaxC w) (hT : Pow10 w) (hE : ErrSyn w) (hwf : ∀ c ∈ l, CellD.wf c) (HN : Hid (R = (⟨k, o, false, l, n⟩, ⟨0, 0, Pu.cellsT l, 0, 0⟩))) :
    Calls Tryz.prog 59 #[.pointer (some ⟨G, 0, none⟩), .agg #[.string m, .string key, .int .i64 v, .string t]] w fun e w' => ∃ A' c', e = .returned (replyV R.2) ∧ w'.heap[G]? = some (.cells #[.string R.1.kind, .bool R.1.on, .bool R.1.broken, .slice A' R.1.cells.length c', .int .i64 R.1.count] 31 (0, 0)) ∧ OwnL w' base 63 2 cellEn (.slice A' R.1.cells.length c') R.1.cells ∧ Below base w w' ∧ Only G s.ownBlock w w' := by
  have hlM := hM.lt
  have hlT := hT.lt
  have hlE := hE.lt
  have HM := hide hM
  have HT := hide hT
  have HE := hide hE
  clear hM hT hE
  obtain ⟨A, c, rfl⟩ := hs.shape
  have HS := hide hs
  have hGs : G < w.heap.size := (Array.getElem?_eq_some_iff.1 hg).1
  have HCC := hide hc
  have E0 := hide (show ((w.alloc (.cells #[.string m, .string key, .int .i64 v, .string t] 37 : Obj)).alloc (.cells #[.int .i64 0, .int .i64 0, .string ⟨#[]⟩, .int .i64 0, .int .i64 0] 33 : Obj)).heap[G]? = some (.cells #[.string k, .bool o, .bool false, .slice A l.length c, .int .i64 n] 31 (0, 0) : Obj) from heap_old (by simp <;> omega) (heap_old (by omega) hg))
  clear hs hg hc
  go_enter Tryz.func59, Tryz.ntmps59
  go_upto_region 1 with fail
  obtain ⟨w0, hw0⟩ : ∃ w0, Hid ((w.alloc (.cells #[.string m, .string key, .int .i64 v, .string t] 37 : Obj)).alloc (.cells #[.int .i64 0, .int .i64 0, .string ⟨#[]⟩, .int .i64 0, .int .i64 0] 33 : Obj) = w0) := ⟨_, rfl⟩
  rw [hw0.out]
  have b0 : Below w.heap.size w w0 := by rw [← hw0.out]; exact below_alloc (below_alloc (Below.refl _ _) _) _
  have Y0 := hide (show w0.heap[G]? = some (.cells #[.string k, .bool o, .bool false, .slice A l.length c, .int .i64 n] 31 (0, 0) : Obj) by rw [← hw0.out]; exact E0.out)
  have Y1 := hide (show w0.heap[w.heap.size]? = some (.cells #[.string m, .string key, .int .i64 v, .string t] 37 : Obj) by rw [← hw0.out]; exact heap_old (by simp) (heap_new rfl))
  have Y2 := hide (show w0.heap[w.heap.size + 1]? = some (.cells #[.int .i64 0, .int .i64 0, .string ⟨#[]⟩, .int .i64 0, .int .i64 0] 33 : Obj) by rw [← hw0.out]; exact heap_new (by simp))
  have HO0 := hide (OwnL.below HS.out b0 (Nat.le_refl _))
  have hb0 : Below base w w0 := b0.mono (by omega)
  clear E0
  have HFX := hide (fun g hg => And.intro (own_ne HO0.out Y0.out (by decide) g hg) (own_ne HO0.out Y2.out (by decide) g hg))
  obtain ⟨_, _, _, _, _, _⟩ := five_cells Y0.out
  obtain ⟨_, _, _, _, _⟩ := four_cells Y1.out
  obtain ⟨e0, e1, e2, e3, e4, ef⟩ := five_cells Y2.out
  have hx21a : ¬ G = w.heap.size := by omega
  have hx21b : ¬ w.heap.size = G := by omega
  have hx23a : ¬ G = w.heap.size + 1 := by omega
  have hx23b : ¬ w.heap.size + 1 = G := by omega
  have HWF := hide hwf
  clear hwf
  obtain ⟨T, HTT⟩ : ∃ T, Hid (Pu.cellsT l = T) := ⟨_, rfl⟩
  rw [HTT.out] at HN
  go_wp2_with fail
  refine (iFormatCells_c _ l _ (HT.out.below b0 hlT) ⟨HO0.out.rd (fun _ => rfl), HWF.out⟩).mono ?_; rintro e w1 ⟨rfl, b1⟩
  rw [HTT.out]
  have X0 := hide (row_on b1 Y0.out)
  have X1 := hide (row_on b1 Y1.out)
  have X2 := hide (row_on b1 Y2.out)
  have b1x := b1
  have hbW : Below base w w1 := hb0.trans (b1.mono (Nat.le_trans (by omega) b0.size))
  have HO1 := hide (OwnL.below HO0.out b1 (Nat.le_refl _))
  obtain ⟨_, _, _, _, _, _⟩ := five_cells X0.out
  obtain ⟨_, _, _, _, _⟩ := four_cells X1.out
  obtain ⟨e0, e1, e2, e3, e4, ef⟩ := five_cells X2.out
  clear b1
  go_wp2
  refine bodyPost_ret (v := .agg #[.int .i64 0, .int .i64 0, .string T, .int .i64 0, .int .i64 0]) (by simp [results, Tryz.results59, go_sem, e0, e1, e2, e3, e4]) rfl ?_
  rw [HN.out]
  refine ⟨A, c, rfl, ?_, ?_, ?_, ?_⟩
  · iterate 5 refine row_past ?_ (by omega)
    exact X0.out
  · iterate 5 refine OwnL.set' ?_ (by intro g hg; have := HFX.out g hg; simp <;> omega) _
    exact HO1.out
  · iterate 5 refine Below.setCell ?_ (by simp <;> omega) _
    exact hbW
  · iterate 5 refine only_set ?_ (by first | exact .inl rfl | exact .inr (.inr (by simp <;> omega))) _
    exact only_below (below_then b0 b1x)
set_option maxHeartbeats 2000000 in
theorem iDo_loadf (G : Nat) (k m key t : ByteArray) (v : Int) (o : Bool) (s : Value) (l : List Pu.CellD) (n : Int) (base : Nat) (w : World) (R : Pu.CoreD × Pu.ReplyD) (hg : w.heap[G]? = some (.cells #[.string k, .bool o, .bool false, s, .int .i64 n] 31 (0, 0) : Obj)) (hs : OwnL w base 63 2 cellEn s l) (hbG : base ≤ G) (hc : Pu.cellsB l = true) (hn0 : 0 ≤ n) (hn1 : n ≤ 999) (hStart : (m.toList == [83, 116, 97, 114, 116]) = false) (hStop : (m.toList == [83, 116, 111, 112]) = false) (hGet : (m.toList == [71, 101, 116]) = false) (hPut : (m.toList == [80, 117, 116]) = false) (hTell : (m.toList == [84, 101, 108, 108]) = false) (hHear : (m.toList == [72, 101, 97, 114]) = false) (hSave : (m.toList == [83, 97, 118, 101]) = false) (hLoad : (m.toList == [76, 111, 97, 100]) = true) (hHeal : (m.toList == [72, 101, 97, 108]) = false) (hM : MaxC w) (hT : Pow10 w) (hE : ErrSyn w) (ht : t.size ≤ 1048576) (hok : Pu.pcOk t = false) (HN : Hid (R = (⟨k, o, false, l, n⟩, Pu.rp 6 0))) :
    Calls Tryz.prog 59 #[.pointer (some ⟨G, 0, none⟩), .agg #[.string m, .string key, .int .i64 v, .string t]] w fun e w' => ∃ A' c', e = .returned (replyV R.2) ∧ w'.heap[G]? = some (.cells #[.string R.1.kind, .bool R.1.on, .bool R.1.broken, .slice A' R.1.cells.length c', .int .i64 R.1.count] 31 (0, 0)) ∧ OwnL w' base 63 2 cellEn (.slice A' R.1.cells.length c') R.1.cells ∧ Below base w w' ∧ Only G s.ownBlock w w' := by
  have hlM := hM.lt
  have hlT := hT.lt
  have hlE := hE.lt
  have HM := hide hM
  have HT := hide hT
  have HE := hide hE
  clear hM hT hE
  obtain ⟨A, c, rfl⟩ := hs.shape
  have HS := hide hs
  have hGs : G < w.heap.size := (Array.getElem?_eq_some_iff.1 hg).1
  have HCC := hide hc
  have E0 := hide (show ((w.alloc (.cells #[.string m, .string key, .int .i64 v, .string t] 37 : Obj)).alloc (.cells #[.int .i64 0, .int .i64 0, .string ⟨#[]⟩, .int .i64 0, .int .i64 0] 33 : Obj)).heap[G]? = some (.cells #[.string k, .bool o, .bool false, .slice A l.length c, .int .i64 n] 31 (0, 0) : Obj) from heap_old (by simp <;> omega) (heap_old (by omega) hg))
  clear hs hg hc
  go_enter Tryz.func59, Tryz.ntmps59
  go_upto_region 1 with fail
  obtain ⟨w0, hw0⟩ : ∃ w0, Hid ((w.alloc (.cells #[.string m, .string key, .int .i64 v, .string t] 37 : Obj)).alloc (.cells #[.int .i64 0, .int .i64 0, .string ⟨#[]⟩, .int .i64 0, .int .i64 0] 33 : Obj) = w0) := ⟨_, rfl⟩
  rw [hw0.out]
  have b0 : Below w.heap.size w w0 := by rw [← hw0.out]; exact below_alloc (below_alloc (Below.refl _ _) _) _
  have Y0 := hide (show w0.heap[G]? = some (.cells #[.string k, .bool o, .bool false, .slice A l.length c, .int .i64 n] 31 (0, 0) : Obj) by rw [← hw0.out]; exact E0.out)
  have Y1 := hide (show w0.heap[w.heap.size]? = some (.cells #[.string m, .string key, .int .i64 v, .string t] 37 : Obj) by rw [← hw0.out]; exact heap_old (by simp) (heap_new rfl))
  have Y2 := hide (show w0.heap[w.heap.size + 1]? = some (.cells #[.int .i64 0, .int .i64 0, .string ⟨#[]⟩, .int .i64 0, .int .i64 0] 33 : Obj) by rw [← hw0.out]; exact heap_new (by simp))
  have HO0 := hide (OwnL.below HS.out b0 (Nat.le_refl _))
  have hb0 : Below base w w0 := b0.mono (by omega)
  clear E0
  have HFX := hide (fun g hg => And.intro (own_ne HO0.out Y0.out (by decide) g hg) (own_ne HO0.out Y2.out (by decide) g hg))
  obtain ⟨_, _, _, _, _, _⟩ := five_cells Y0.out
  obtain ⟨_, _, _, _, _⟩ := four_cells Y1.out
  obtain ⟨e0, e1, e2, e3, e4, ef⟩ := five_cells Y2.out
  have hx21a : ¬ G = w.heap.size := by omega
  have hx21b : ¬ w.heap.size = G := by omega
  have hx23a : ¬ G = w.heap.size + 1 := by omega
  have hx23b : ¬ w.heap.size + 1 = G := by omega
  go_wp2_with fail
  refine (iParseCells_c t _ (HM.out.below b0 hlM) (HT.out.below b0 hlT) (HE.out.below b0 hlE) ht).mono ?_; rintro e w1 ⟨v1, rfl, o1, b1⟩
  rw [hok]
  have X0 := hide (row_on b1 Y0.out)
  have X1 := hide (row_on b1 Y1.out)
  have X2 := hide (row_on b1 Y2.out)
  have b1x := b1
  have hbW : Below base w w1 := hb0.trans (b1.mono (Nat.le_trans (by omega) b0.size))
  have HO1 := hide (OwnL.below HO0.out b1 (Nat.le_refl _))
  obtain ⟨_, _, _, _, _, _⟩ := five_cells X0.out
  obtain ⟨_, _, _, _, _⟩ := four_cells X1.out
  obtain ⟨e0, e1, e2, e3, e4, ef⟩ := five_cells X2.out
  clear b1 o1
  go_wp2
  refine bodyPost_ret (v := .agg #[.int .i64 6, .int .i64 0, .string ⟨#[]⟩, .int .i64 0, .int .i64 0]) (by simp [results, Tryz.results59, go_sem, e0, e1, e2, e3, e4]) rfl ?_
  rw [HN.out]
  refine ⟨A, c, rfl, ?_, ?_, ?_, ?_⟩
  · iterate 5 refine row_past ?_ (by omega)
    exact X0.out
  · iterate 5 refine OwnL.set' ?_ (by intro g hg; have := HFX.out g hg; simp <;> omega) _
    exact HO1.out
  · iterate 5 refine Below.setCell ?_ (by simp <;> omega) _
    exact hbW
  · iterate 5 refine only_set ?_ (by first | exact .inl rfl | exact .inr (.inr (by simp <;> omega))) _
    exact only_below (below_then b0 b1x)
set_option maxHeartbeats 2000000 in
theorem iDo_loadt (G : Nat) (k m key t : ByteArray) (v : Int) (o : Bool) (s : Value) (l : List Pu.CellD) (n : Int) (base : Nat) (w : World) (R : Pu.CoreD × Pu.ReplyD) (hg : w.heap[G]? = some (.cells #[.string k, .bool o, .bool false, s, .int .i64 n] 31 (0, 0) : Obj)) (hs : OwnL w base 63 2 cellEn s l) (hbG : base ≤ G) (hc : Pu.cellsB l = true) (hn0 : 0 ≤ n) (hn1 : n ≤ 999) (hStart : (m.toList == [83, 116, 97, 114, 116]) = false) (hStop : (m.toList == [83, 116, 111, 112]) = false) (hGet : (m.toList == [71, 101, 116]) = false) (hPut : (m.toList == [80, 117, 116]) = false) (hTell : (m.toList == [84, 101, 108, 108]) = false) (hHear : (m.toList == [72, 101, 97, 114]) = false) (hSave : (m.toList == [83, 97, 118, 101]) = false) (hLoad : (m.toList == [76, 111, 97, 100]) = true) (hHeal : (m.toList == [72, 101, 97, 108]) = false) (hM : MaxC w) (hT : Pow10 w) (hE : ErrSyn w) (ht : t.size ≤ 1048576) (hok : Pu.pcOk t = true) (HN : Hid (R = (⟨k, o, false, Pu.pcL t, n⟩, Pu.rp 0 (Pu.pcL t).length))) :
    Calls Tryz.prog 59 #[.pointer (some ⟨G, 0, none⟩), .agg #[.string m, .string key, .int .i64 v, .string t]] w fun e w' => ∃ A' c', e = .returned (replyV R.2) ∧ w'.heap[G]? = some (.cells #[.string R.1.kind, .bool R.1.on, .bool R.1.broken, .slice A' R.1.cells.length c', .int .i64 R.1.count] 31 (0, 0)) ∧ OwnL w' base 63 2 cellEn (.slice A' R.1.cells.length c') R.1.cells ∧ Below base w w' ∧ Only G s.ownBlock w w' := by
  have hlM := hM.lt
  have hlT := hT.lt
  have hlE := hE.lt
  have HM := hide hM
  have HT := hide hT
  have HE := hide hE
  clear hM hT hE
  obtain ⟨A, c, rfl⟩ := hs.shape
  have HS := hide hs
  have hGs : G < w.heap.size := (Array.getElem?_eq_some_iff.1 hg).1
  have HCC := hide hc
  have E0 := hide (show ((w.alloc (.cells #[.string m, .string key, .int .i64 v, .string t] 37 : Obj)).alloc (.cells #[.int .i64 0, .int .i64 0, .string ⟨#[]⟩, .int .i64 0, .int .i64 0] 33 : Obj)).heap[G]? = some (.cells #[.string k, .bool o, .bool false, .slice A l.length c, .int .i64 n] 31 (0, 0) : Obj) from heap_old (by simp <;> omega) (heap_old (by omega) hg))
  clear hs hg hc
  go_enter Tryz.func59, Tryz.ntmps59
  go_upto_region 1 with fail
  obtain ⟨w0, hw0⟩ : ∃ w0, Hid ((w.alloc (.cells #[.string m, .string key, .int .i64 v, .string t] 37 : Obj)).alloc (.cells #[.int .i64 0, .int .i64 0, .string ⟨#[]⟩, .int .i64 0, .int .i64 0] 33 : Obj) = w0) := ⟨_, rfl⟩
  rw [hw0.out]
  have b0 : Below w.heap.size w w0 := by rw [← hw0.out]; exact below_alloc (below_alloc (Below.refl _ _) _) _
  have Y0 := hide (show w0.heap[G]? = some (.cells #[.string k, .bool o, .bool false, .slice A l.length c, .int .i64 n] 31 (0, 0) : Obj) by rw [← hw0.out]; exact E0.out)
  have Y1 := hide (show w0.heap[w.heap.size]? = some (.cells #[.string m, .string key, .int .i64 v, .string t] 37 : Obj) by rw [← hw0.out]; exact heap_old (by simp) (heap_new rfl))
  have Y2 := hide (show w0.heap[w.heap.size + 1]? = some (.cells #[.int .i64 0, .int .i64 0, .string ⟨#[]⟩, .int .i64 0, .int .i64 0] 33 : Obj) by rw [← hw0.out]; exact heap_new (by simp))
  have HO0 := hide (OwnL.below HS.out b0 (Nat.le_refl _))
  have hb0 : Below base w w0 := b0.mono (by omega)
  clear E0
  have HFX := hide (fun g hg => And.intro (own_ne HO0.out Y0.out (by decide) g hg) (own_ne HO0.out Y2.out (by decide) g hg))
  obtain ⟨_, _, _, _, _, _⟩ := five_cells Y0.out
  obtain ⟨_, _, _, _, _⟩ := four_cells Y1.out
  obtain ⟨e0, e1, e2, e3, e4, ef⟩ := five_cells Y2.out
  have hx21a : ¬ G = w.heap.size := by omega
  have hx21b : ¬ w.heap.size = G := by omega
  have hx23a : ¬ G = w.heap.size + 1 := by omega
  have hx23b : ¬ w.heap.size + 1 = G := by omega
  obtain ⟨L, HL⟩ : ∃ L, Hid (Pu.pcL t = L) := ⟨_, rfl⟩
  rw [HL.out] at HN
  go_wp2_with fail
  refine (iParseCells_c t _ (HM.out.below b0 hlM) (HT.out.below b0 hlT) (HE.out.below b0 hlE) ht).mono ?_; rintro e w1 ⟨v1, rfl, o1, b1⟩
  rw [hok]
  rw [HL.out] at o1
  obtain ⟨A1, c1, rfl⟩ := o1.shape
  have X0 := hide (row_on b1 Y0.out)
  have X1 := hide (row_on b1 Y1.out)
  have X2 := hide (row_on b1 Y2.out)
  have b1x := b1
  have hbW : Below base w w1 := hb0.trans (b1.mono (Nat.le_trans (by omega) b0.size))
  have HO1 := hide (OwnL.below HO0.out b1 (Nat.le_refl _))
  obtain ⟨_, _, _, _, _, _⟩ := five_cells X0.out
  obtain ⟨_, _, _, _, _⟩ := four_cells X1.out
  obtain ⟨e0, e1, e2, e3, e4, ef⟩ := five_cells X2.out
  have HFY := hide (fun g hg => And.intro (own_ne o1 X0.out (by decide) g hg) (own_ne o1 X2.out (by decide) g hg))
  have HO9 := hide (OwnL.mono o1 (show base ≤ w0.heap.size from Nat.le_trans (by omega) b0.size))
  clear b1 o1
  go_wp2
  refine bodyPost_ret (v := .agg #[.int .i64 0, .int .i64 L.length, .string ⟨#[]⟩, .int .i64 0, .int .i64 0]) (by simp [results, Tryz.results59, go_sem, e0, e1, e2, e3, e4]) rfl ?_
  rw [HN.out]
  refine ⟨A1, c1, rfl, ?_, ?_, ?_, ?_⟩
  · iterate 5 refine row_past ?_ (by omega)
    exact (row5_set X0.out).2.2.1
  · iterate 6 refine OwnL.set' ?_ (by intro g hg; have := HFY.out g hg; simp <;> omega) _
    exact HO9.out
  · iterate 6 refine Below.setCell ?_ (by simp <;> omega) _
    exact hbW
  · iterate 6 refine only_set ?_ (by first | exact .inl rfl | exact .inr (.inr (by simp <;> omega))) _
    exact only_below (below_then b0 b1x)
set_option maxHeartbeats 2000000 in
theorem iDo_get (G : Nat) (k m key t : ByteArray) (v : Int) (o : Bool) (s : Value) (l : List Pu.CellD) (n : Int) (base : Nat) (w : World) (R : Pu.CoreD × Pu.ReplyD) (hg : w.heap[G]? = some (.cells #[.string k, .bool o, .bool false, s, .int .i64 n] 31 (0, 0) : Obj)) (hs : OwnL w base 63 2 cellEn s l) (hbG : base ≤ G) (hc : Pu.cellsB l = true) (hn0 : 0 ≤ n) (hn1 : n ≤ 999) (hStart : (m.toList == [83, 116, 97, 114, 116]) = false) (hStop : (m.toList == [83, 116, 111, 112]) = false) (hGet : (m.toList == [71, 101, 116]) = true) (hPut : (m.toList == [80, 117, 116]) = false) (hTell : (m.toList == [84, 101, 108, 108]) = false) (hHear : (m.toList == [72, 101, 97, 114]) = false) (hSave : (m.toList == [83, 97, 118, 101]) = false) (hLoad : (m.toList == [76, 111, 97, 100]) = false) (hHeal : (m.toList == [72, 101, 97, 108]) = false) (HN : Hid (R = Pu.keepF true ⟨k, o, false, l, n⟩ ⟨m, key, v, t⟩)) :
    Calls Tryz.prog 59 #[.pointer (some ⟨G, 0, none⟩), .agg #[.string m, .string key, .int .i64 v, .string t]] w fun e w' => ∃ A' c', e = .returned (replyV R.2) ∧ w'.heap[G]? = some (.cells #[.string R.1.kind, .bool R.1.on, .bool R.1.broken, .slice A' R.1.cells.length c', .int .i64 R.1.count] 31 (0, 0)) ∧ OwnL w' base 63 2 cellEn (.slice A' R.1.cells.length c') R.1.cells ∧ Below base w w' ∧ Only G s.ownBlock w w' := by
  obtain ⟨A, c, rfl⟩ := hs.shape
  have HS := hide hs
  have hGs : G < w.heap.size := (Array.getElem?_eq_some_iff.1 hg).1
  have HCC := hide hc
  have E0 := hide (show ((w.alloc (.cells #[.string m, .string key, .int .i64 v, .string t] 37 : Obj)).alloc (.cells #[.int .i64 0, .int .i64 0, .string ⟨#[]⟩, .int .i64 0, .int .i64 0] 33 : Obj)).heap[G]? = some (.cells #[.string k, .bool o, .bool false, .slice A l.length c, .int .i64 n] 31 (0, 0) : Obj) from heap_old (by simp <;> omega) (heap_old (by omega) hg))
  clear hs hg hc
  go_enter Tryz.func59, Tryz.ntmps59
  go_upto_region 1 with fail
  obtain ⟨w0, hw0⟩ : ∃ w0, Hid ((w.alloc (.cells #[.string m, .string key, .int .i64 v, .string t] 37 : Obj)).alloc (.cells #[.int .i64 0, .int .i64 0, .string ⟨#[]⟩, .int .i64 0, .int .i64 0] 33 : Obj) = w0) := ⟨_, rfl⟩
  rw [hw0.out]
  have b0 : Below w.heap.size w w0 := by rw [← hw0.out]; exact below_alloc (below_alloc (Below.refl _ _) _) _
  have Y0 := hide (show w0.heap[G]? = some (.cells #[.string k, .bool o, .bool false, .slice A l.length c, .int .i64 n] 31 (0, 0) : Obj) by rw [← hw0.out]; exact E0.out)
  have Y1 := hide (show w0.heap[w.heap.size]? = some (.cells #[.string m, .string key, .int .i64 v, .string t] 37 : Obj) by rw [← hw0.out]; exact heap_old (by simp) (heap_new rfl))
  have Y2 := hide (show w0.heap[w.heap.size + 1]? = some (.cells #[.int .i64 0, .int .i64 0, .string ⟨#[]⟩, .int .i64 0, .int .i64 0] 33 : Obj) by rw [← hw0.out]; exact heap_new (by simp))
  have HO0 := hide (OwnL.below HS.out b0 (Nat.le_refl _))
  have hb0 : Below base w w0 := b0.mono (by omega)
  clear E0
  have HFX := hide (fun g hg => And.intro (own_ne HO0.out Y0.out (by decide) g hg) (own_ne HO0.out Y2.out (by decide) g hg))
  obtain ⟨_, _, _, _, _, _⟩ := five_cells Y0.out
  obtain ⟨_, _, _, _, _⟩ := four_cells Y1.out
  obtain ⟨e0, e1, e2, e3, e4, ef⟩ := five_cells Y2.out
  have hx21a : ¬ G = w.heap.size := by omega
  have hx21b : ¬ w.heap.size = G := by omega
  have hx23a : ¬ G = w.heap.size + 1 := by omega
  have hx23b : ¬ w.heap.size + 1 = G := by omega
  go_wp2_with fail
  refine (iKeep_c G k m key t v o false _ l n base _ Y0.out HO0.out hbG HCC.out hn0 hn1 true hGet R (by rw [Hid, HN.out])).mono ?_; rintro e w1 ⟨A1, c1, he, r1, o1, b1, f1⟩
  obtain ⟨⟨k1, o1b, b1b, l1, n1⟩, ⟨cc1, v1, t1, wa1, h1⟩⟩ := R
  subst he
  unfold replyV
  dsimp only at r1 o1 ⊢
  have R1 := hide r1
  have X2 := hide (only_row f1 Y2.out (by omega) (by intro h9; exact (HFX.out _ h9.symm).2 rfl))
  have hbW : Below base w w1 := hb0.trans b1
  have HF1 := hide (only_then b0 f1)
  have HFY := hide (fun g hg => And.intro (own_ne o1 R1.out (by decide) g hg) (own_ne o1 X2.out (by decide) g hg))
  have HO1 := hide o1
  clear r1 o1 f1 b1
  obtain ⟨e0, e1, e2, e3, e4, ef⟩ := five_cells X2.out
  go_wp2
  refine bodyPost_ret (v := .agg #[.int .i64 cc1, .int .i64 v1, .string t1, .int .i64 wa1, .int .i64 h1]) (by simp [results, Tryz.results59, go_sem, e0, e1, e2, e3, e4]) rfl ?_
  first | refine ⟨A1, c1, rfl, ?_, ?_, ?_, ?_⟩ | refine ⟨rfl, A1, c1, ?_, ?_, ?_, ?_⟩
  · iterate 5 refine row_past ?_ (by omega)
    exact R1.out
  · iterate 5 refine OwnL.set' ?_ (by intro g hg; have := HFY.out g hg; simp <;> omega) _
    exact HO1.out
  · iterate 5 refine Below.setCell ?_ (by simp <;> omega) _
    exact hbW
  · iterate 5 refine only_set ?_ (by first | exact .inr (.inr (by simp <;> omega))) _
    exact HF1.out
set_option maxHeartbeats 2000000 in
theorem iDo_put (G : Nat) (k m key t : ByteArray) (v : Int) (o : Bool) (s : Value) (l : List Pu.CellD) (n : Int) (base : Nat) (w : World) (R : Pu.CoreD × Pu.ReplyD) (hg : w.heap[G]? = some (.cells #[.string k, .bool o, .bool false, s, .int .i64 n] 31 (0, 0) : Obj)) (hs : OwnL w base 63 2 cellEn s l) (hbG : base ≤ G) (hc : Pu.cellsB l = true) (hn0 : 0 ≤ n) (hn1 : n ≤ 999) (hStart : (m.toList == [83, 116, 97, 114, 116]) = false) (hStop : (m.toList == [83, 116, 111, 112]) = false) (hGet : (m.toList == [71, 101, 116]) = false) (hPut : (m.toList == [80, 117, 116]) = true) (hTell : (m.toList == [84, 101, 108, 108]) = false) (hHear : (m.toList == [72, 101, 97, 114]) = false) (hSave : (m.toList == [83, 97, 118, 101]) = false) (hLoad : (m.toList == [76, 111, 97, 100]) = false) (hHeal : (m.toList == [72, 101, 97, 108]) = false) (HN : Hid (R = Pu.keepF false ⟨k, o, false, l, n⟩ ⟨m, key, v, t⟩)) :
    Calls Tryz.prog 59 #[.pointer (some ⟨G, 0, none⟩), .agg #[.string m, .string key, .int .i64 v, .string t]] w fun e w' => ∃ A' c', e = .returned (replyV R.2) ∧ w'.heap[G]? = some (.cells #[.string R.1.kind, .bool R.1.on, .bool R.1.broken, .slice A' R.1.cells.length c', .int .i64 R.1.count] 31 (0, 0)) ∧ OwnL w' base 63 2 cellEn (.slice A' R.1.cells.length c') R.1.cells ∧ Below base w w' ∧ Only G s.ownBlock w w' := by
  obtain ⟨A, c, rfl⟩ := hs.shape
  have HS := hide hs
  have hGs : G < w.heap.size := (Array.getElem?_eq_some_iff.1 hg).1
  have HCC := hide hc
  have E0 := hide (show ((w.alloc (.cells #[.string m, .string key, .int .i64 v, .string t] 37 : Obj)).alloc (.cells #[.int .i64 0, .int .i64 0, .string ⟨#[]⟩, .int .i64 0, .int .i64 0] 33 : Obj)).heap[G]? = some (.cells #[.string k, .bool o, .bool false, .slice A l.length c, .int .i64 n] 31 (0, 0) : Obj) from heap_old (by simp <;> omega) (heap_old (by omega) hg))
  clear hs hg hc
  go_enter Tryz.func59, Tryz.ntmps59
  go_upto_region 1 with fail
  obtain ⟨w0, hw0⟩ : ∃ w0, Hid ((w.alloc (.cells #[.string m, .string key, .int .i64 v, .string t] 37 : Obj)).alloc (.cells #[.int .i64 0, .int .i64 0, .string ⟨#[]⟩, .int .i64 0, .int .i64 0] 33 : Obj) = w0) := ⟨_, rfl⟩
  rw [hw0.out]
  have b0 : Below w.heap.size w w0 := by rw [← hw0.out]; exact below_alloc (below_alloc (Below.refl _ _) _) _
  have Y0 := hide (show w0.heap[G]? = some (.cells #[.string k, .bool o, .bool false, .slice A l.length c, .int .i64 n] 31 (0, 0) : Obj) by rw [← hw0.out]; exact E0.out)
  have Y1 := hide (show w0.heap[w.heap.size]? = some (.cells #[.string m, .string key, .int .i64 v, .string t] 37 : Obj) by rw [← hw0.out]; exact heap_old (by simp) (heap_new rfl))
  have Y2 := hide (show w0.heap[w.heap.size + 1]? = some (.cells #[.int .i64 0, .int .i64 0, .string ⟨#[]⟩, .int .i64 0, .int .i64 0] 33 : Obj) by rw [← hw0.out]; exact heap_new (by simp))
  have HO0 := hide (OwnL.below HS.out b0 (Nat.le_refl _))
  have hb0 : Below base w w0 := b0.mono (by omega)
  clear E0
  have HFX := hide (fun g hg => And.intro (own_ne HO0.out Y0.out (by decide) g hg) (own_ne HO0.out Y2.out (by decide) g hg))
  obtain ⟨_, _, _, _, _, _⟩ := five_cells Y0.out
  obtain ⟨_, _, _, _, _⟩ := four_cells Y1.out
  obtain ⟨e0, e1, e2, e3, e4, ef⟩ := five_cells Y2.out
  have hx21a : ¬ G = w.heap.size := by omega
  have hx21b : ¬ w.heap.size = G := by omega
  have hx23a : ¬ G = w.heap.size + 1 := by omega
  have hx23b : ¬ w.heap.size + 1 = G := by omega
  go_wp2_with fail
  refine (iKeep_c G k m key t v o false _ l n base _ Y0.out HO0.out hbG HCC.out hn0 hn1 false hGet R (by rw [Hid, HN.out])).mono ?_; rintro e w1 ⟨A1, c1, he, r1, o1, b1, f1⟩
  obtain ⟨⟨k1, o1b, b1b, l1, n1⟩, ⟨cc1, v1, t1, wa1, h1⟩⟩ := R
  subst he
  unfold replyV
  dsimp only at r1 o1 ⊢
  have R1 := hide r1
  have X2 := hide (only_row f1 Y2.out (by omega) (by intro h9; exact (HFX.out _ h9.symm).2 rfl))
  have hbW : Below base w w1 := hb0.trans b1
  have HF1 := hide (only_then b0 f1)
  have HFY := hide (fun g hg => And.intro (own_ne o1 R1.out (by decide) g hg) (own_ne o1 X2.out (by decide) g hg))
  have HO1 := hide o1
  clear r1 o1 f1 b1
  obtain ⟨e0, e1, e2, e3, e4, ef⟩ := five_cells X2.out
  go_wp2
  refine bodyPost_ret (v := .agg #[.int .i64 cc1, .int .i64 v1, .string t1, .int .i64 wa1, .int .i64 h1]) (by simp [results, Tryz.results59, go_sem, e0, e1, e2, e3, e4]) rfl ?_
  first | refine ⟨A1, c1, rfl, ?_, ?_, ?_, ?_⟩ | refine ⟨rfl, A1, c1, ?_, ?_, ?_, ?_⟩
  · iterate 5 refine row_past ?_ (by omega)
    exact R1.out
  · iterate 5 refine OwnL.set' ?_ (by intro g hg; have := HFY.out g hg; simp <;> omega) _
    exact HO1.out
  · iterate 5 refine Below.setCell ?_ (by simp <;> omega) _
    exact hbW
  · iterate 5 refine only_set ?_ (by first | exact .inr (.inr (by simp <;> omega))) _
    exact HF1.out
theorem iDoes_c (G : Nat) (p : Pu.CoreD) (x : Pu.CallD) (s : Value) (base : Nat) (w : World) (hg : w.heap[G]? = some (.cells #[.string p.kind, .bool p.on, .bool p.broken, s, .int .i64 p.count] 31 (0, 0) : Obj)) (hs : OwnL w base 63 2 cellEn s p.cells) (hbG : base ≤ G) (hM : MaxC w) (hT : Pow10 w) (hE : ErrSyn w) (hp : Pu.coreB p = true) (hx : Pu.callB x = true) (ht : x.text.size ≤ 1048576) (R : Pu.CoreD × Pu.ReplyD) (HR : Hid (Pu.doF p x = R)) :
    Calls Tryz.prog 59 #[.pointer (some ⟨G, 0, none⟩), callV x] w fun e w' => ∃ A' c', e = .returned (replyV R.2) ∧ w'.heap[G]? = some (.cells #[.string R.1.kind, .bool R.1.on, .bool R.1.broken, .slice A' R.1.cells.length c', .int .i64 R.1.count] 31 (0, 0)) ∧ OwnL w' base 63 2 cellEn (.slice A' R.1.cells.length c') R.1.cells ∧ Below base w w' ∧ Only G s.ownBlock w w' := by
  obtain ⟨hc, hn0, hn1, _, hwf⟩ := good_of hp
  have hcase := Pu.call_cases hx
  obtain ⟨k, o, b, l, n⟩ := p
  obtain ⟨m, key, v, t⟩ := x
  dsimp only at hg hs hc hn0 hn1 hwf hcase ht
  clear hp hx
  rcases hcase with e | e | e | e | e | e | e | e | e
  · have e : m.toList = Pu.mStart := e
    rcases b with _ | _
    · rcases o with _ | _
      · exact iDo_start0 G k m key t v s l n base w R hg hs hbG hc hn0 hn1 (by rw [e]; decide) (by rw [e]; decide) (by rw [e]; decide) (by rw [e]; decide) (by rw [e]; decide) (by rw [e]; decide) (by rw [e]; decide) (by rw [e]; decide) (by rw [e]; decide) (by rw [Hid, ← HR.out]; unfold Pu.doF; dsimp only; rw [e]; rfl)
      · exact iDo_start1 G k m key t v s l n base w R hg hs hbG hc hn0 hn1 (by rw [e]; decide) (by rw [e]; decide) (by rw [e]; decide) (by rw [e]; decide) (by rw [e]; decide) (by rw [e]; decide) (by rw [e]; decide) (by rw [e]; decide) (by rw [e]; decide) (by rw [Hid, ← HR.out]; unfold Pu.doF; dsimp only; rw [e]; rfl)
    · exact iDo_broken G k m key t v o s l n base w R hg hs hbG hc hn0 hn1 (by rw [e]; decide) (by rw [e]; decide) (by rw [Hid, ← HR.out]; unfold Pu.doF; dsimp only; rw [e]; rfl)
  · have e : m.toList = Pu.mStop := e
    rcases b with _ | _
    · rcases o with _ | _
      · exact iDo_stop0 G k m key t v s l n base w R hg hs hbG hc hn0 hn1 (by rw [e]; decide) (by rw [e]; decide) (by rw [e]; decide) (by rw [e]; decide) (by rw [e]; decide) (by rw [e]; decide) (by rw [e]; decide) (by rw [e]; decide) (by rw [e]; decide) (by rw [Hid, ← HR.out]; unfold Pu.doF; dsimp only; rw [e]; rfl)
      · exact iDo_stop1 G k m key t v s l n base w R hg hs hbG hc hn0 hn1 (by rw [e]; decide) (by rw [e]; decide) (by rw [e]; decide) (by rw [e]; decide) (by rw [e]; decide) (by rw [e]; decide) (by rw [e]; decide) (by rw [e]; decide) (by rw [e]; decide) (by rw [Hid, ← HR.out]; unfold Pu.doF; dsimp only; rw [e]; rfl)
    · exact iDo_broken G k m key t v o s l n base w R hg hs hbG hc hn0 hn1 (by rw [e]; decide) (by rw [e]; decide) (by rw [Hid, ← HR.out]; unfold Pu.doF; dsimp only; rw [e]; rfl)
  · have e : m.toList = Pu.mGet := e
    rcases b with _ | _
    · exact iDo_get G k m key t v o s l n base w R hg hs hbG hc hn0 hn1 (by rw [e]; decide) (by rw [e]; decide) (by rw [e]; decide) (by rw [e]; decide) (by rw [e]; decide) (by rw [e]; decide) (by rw [e]; decide) (by rw [e]; decide) (by rw [e]; decide) (by rw [Hid, ← HR.out]; unfold Pu.doF; dsimp only; rw [e]; rfl)
    · exact iDo_broken G k m key t v o s l n base w R hg hs hbG hc hn0 hn1 (by rw [e]; decide) (by rw [e]; decide) (by rw [Hid, ← HR.out]; unfold Pu.doF; dsimp only; rw [e]; rfl)
  · have e : m.toList = Pu.mPut := e
    rcases b with _ | _
    · exact iDo_put G k m key t v o s l n base w R hg hs hbG hc hn0 hn1 (by rw [e]; decide) (by rw [e]; decide) (by rw [e]; decide) (by rw [e]; decide) (by rw [e]; decide) (by rw [e]; decide) (by rw [e]; decide) (by rw [e]; decide) (by rw [e]; decide) (by rw [Hid, ← HR.out]; unfold Pu.doF; dsimp only; rw [e]; rfl)
    · exact iDo_broken G k m key t v o s l n base w R hg hs hbG hc hn0 hn1 (by rw [e]; decide) (by rw [e]; decide) (by rw [Hid, ← HR.out]; unfold Pu.doF; dsimp only; rw [e]; rfl)
  · have e : m.toList = Pu.mTell := e
    rcases b with _ | _
    · exact iDo_tellf G k m key t v o s l n base w R hg hs hbG hc hn0 hn1 (by rw [e]; decide) (by rw [e]; decide) (by rw [e]; decide) (by rw [e]; decide) (by rw [e]; decide) (by rw [e]; decide) (by rw [e]; decide) (by rw [e]; decide) (by rw [e]; decide) (by rw [Hid, ← HR.out]; unfold Pu.doF; dsimp only; rw [e]; rfl)
    · exact iDo_tellt G k m key t v o s l n base w R hg hs hbG hc hn0 hn1 (by rw [e]; decide) (by rw [e]; decide) (by rw [e]; decide) (by rw [e]; decide) (by rw [e]; decide) (by rw [e]; decide) (by rw [e]; decide) (by rw [e]; decide) (by rw [e]; decide) (by rw [Hid, ← HR.out]; unfold Pu.doF; dsimp only; rw [e]; rfl)
  · have e : m.toList = Pu.mHear := e
    rcases b with _ | _
    · by_cases h1 : v = 1
      · subst h1
        exact iDo_hear1 G k m key t o s l n base w R hg hs hbG hc hn0 hn1 (by rw [e]; decide) (by rw [e]; decide) (by rw [e]; decide) (by rw [e]; decide) (by rw [e]; decide) (by rw [e]; decide) (by rw [e]; decide) (by rw [e]; decide) (by rw [e]; decide) (by rw [Hid, ← HR.out]; unfold Pu.doF; dsimp only; rw [e]; simp [show (Pu.mHear == Pu.mGet) = false by decide, show (Pu.mHear == Pu.mPut) = false by decide, show (Pu.mHear == Pu.mTell) = false by decide])
      · by_cases h0 : v = 0
        · subst h0
          exact iDo_hear0 G k m key t o s l n base w R hg hs hbG hc hn0 hn1 (by rw [e]; decide) (by rw [e]; decide) (by rw [e]; decide) (by rw [e]; decide) (by rw [e]; decide) (by rw [e]; decide) (by rw [e]; decide) (by rw [e]; decide) (by rw [e]; decide) (by rw [Hid, ← HR.out]; unfold Pu.doF; dsimp only; rw [e]; simp [show (Pu.mHear == Pu.mGet) = false by decide, show (Pu.mHear == Pu.mPut) = false by decide, show (Pu.mHear == Pu.mTell) = false by decide])
        · exact iDo_hear G k m key t v o s l n base w R hg hs hbG hc hn0 hn1 (by rw [e]; decide) (by rw [e]; decide) (by rw [e]; decide) (by rw [e]; decide) (by rw [e]; decide) (by rw [e]; decide) (by rw [e]; decide) (by rw [e]; decide) (by rw [e]; decide) (by simpa using h1) (by simpa using h0) (by rw [Hid, ← HR.out]; unfold Pu.doF; dsimp only; rw [e]; simp [show (Pu.mHear == Pu.mGet) = false by decide, show (Pu.mHear == Pu.mPut) = false by decide, show (Pu.mHear == Pu.mTell) = false by decide, show (v == 1) = false by simpa using h1, show (v == 0) = false by simpa using h0])
    · exact iDo_broken G k m key t v o s l n base w R hg hs hbG hc hn0 hn1 (by rw [e]; decide) (by rw [e]; decide) (by rw [Hid, ← HR.out]; unfold Pu.doF; dsimp only; rw [e]; rfl)
  · have e : m.toList = Pu.mLoad := e
    rcases b with _ | _
    · rcases hok : Pu.pcOk t with _ | _
      · exact iDo_loadf G k m key t v o s l n base w R hg hs hbG hc hn0 hn1 (by rw [e]; decide) (by rw [e]; decide) (by rw [e]; decide) (by rw [e]; decide) (by rw [e]; decide) (by rw [e]; decide) (by rw [e]; decide) (by rw [e]; decide) (by rw [e]; decide) hM hT hE ht hok (by rw [Hid, ← HR.out]; unfold Pu.doF; dsimp only; rw [e]; simp [show (Pu.mLoad == Pu.mGet) = false by decide, show (Pu.mLoad == Pu.mPut) = false by decide, show (Pu.mLoad == Pu.mTell) = false by decide, show (Pu.mLoad == Pu.mHear) = false by decide, show (Pu.mLoad == Pu.mSave) = false by decide, hok])
      · exact iDo_loadt G k m key t v o s l n base w R hg hs hbG hc hn0 hn1 (by rw [e]; decide) (by rw [e]; decide) (by rw [e]; decide) (by rw [e]; decide) (by rw [e]; decide) (by rw [e]; decide) (by rw [e]; decide) (by rw [e]; decide) (by rw [e]; decide) hM hT hE ht hok (by rw [Hid, ← HR.out]; unfold Pu.doF; dsimp only; rw [e]; simp [show (Pu.mLoad == Pu.mGet) = false by decide, show (Pu.mLoad == Pu.mPut) = false by decide, show (Pu.mLoad == Pu.mTell) = false by decide, show (Pu.mLoad == Pu.mHear) = false by decide, show (Pu.mLoad == Pu.mSave) = false by decide, hok])
    · exact iDo_broken G k m key t v o s l n base w R hg hs hbG hc hn0 hn1 (by rw [e]; decide) (by rw [e]; decide) (by rw [Hid, ← HR.out]; unfold Pu.doF; dsimp only; rw [e]; rfl)
  · have e : m.toList = Pu.mSave := e
    rcases b with _ | _
    · exact iDo_save G k m key t v o s l n base w R hg hs hbG hc hn0 hn1 (by rw [e]; decide) (by rw [e]; decide) (by rw [e]; decide) (by rw [e]; decide) (by rw [e]; decide) (by rw [e]; decide) (by rw [e]; decide) (by rw [e]; decide) (by rw [e]; decide) hM hT hE hwf (by rw [Hid, ← HR.out]; unfold Pu.doF; dsimp only; rw [e]; rfl)
    · exact iDo_broken G k m key t v o s l n base w R hg hs hbG hc hn0 hn1 (by rw [e]; decide) (by rw [e]; decide) (by rw [Hid, ← HR.out]; unfold Pu.doF; dsimp only; rw [e]; rfl)
  · have e : m.toList = Pu.mHeal := e
    rcases b with _ | _
    · exact iDo_healf G k m key t v o s l n base w R hg hs hbG hc hn0 hn1 (by rw [e]; decide) (by rw [e]; decide) (by rw [e]; decide) (by rw [e]; decide) (by rw [e]; decide) (by rw [e]; decide) (by rw [e]; decide) (by rw [e]; decide) (by rw [e]; decide) (by rw [Hid, ← HR.out]; unfold Pu.doF; dsimp only; rw [e]; rfl)
    · exact iDo_healt G k m key t v o s l n base w R hg hs hbG hc hn0 hn1 (by rw [e]; decide) (by rw [e]; decide) (by rw [e]; decide) (by rw [e]; decide) (by rw [e]; decide) (by rw [e]; decide) (by rw [e]; decide) (by rw [e]; decide) (by rw [e]; decide) (by rw [Hid, ← HR.out]; unfold Pu.doF; dsimp only; rw [e]; rfl)
end Go.Proofs.YtllmcnmongaahaaGreatDoor
