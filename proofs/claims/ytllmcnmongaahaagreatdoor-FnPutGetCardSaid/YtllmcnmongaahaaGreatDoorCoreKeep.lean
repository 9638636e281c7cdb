/- Contracts: what the reference's calls do to a core (l3Run, l3Keep). Written by wip/tools/coregen.py. -/
import Derived.Test.YtllmcnmongaahaaGreatDoorM0
import Derived.Test.YtllmcnmongaahaaGreatDoorM1
import Derived.Test.YtllmcnmongaahaaGreatDoorCall
import Derived.BigRegion
import Derived.StillTailTactics
namespace Go.Proofs.YtllmcnmongaahaaGreatDoor
open Go.ChangeShapes Go.WideShapes Go.ChangeAt Go.RowKit
set_option maxRecDepth 100000
set_option linter.unusedVariables false
theorem own_ne {α : Type} {w : World} {base : Nat} {e t : TypeId} {size : Nat} {en : α → List Value} {v : Value} {l : List α} {cs : Array Value} {g' : Nat} (h : OwnL w base e size en v l) (hr : w.heap[g']? = some (.cells cs t (0, 0))) (hte : t ≠ e) : ∀ g, v.ownBlock = some g → g ≠ g' := by
  intro g hg he
  subst he
  obtain ⟨_, h2⟩ := h
  rcases h2 with ⟨rfl, _⟩ | ⟨g2, cap, cur, rfl, _, hb, _⟩
  · cases hg
  · have e1 : g2 = g := Option.some.inj hg
    subst e1
    rw [hr] at hb
    cases hb
    exact hte rfl
theorem own_drew {α : Type} {w : World} {base : Nat} {e : TypeId} {size : Nat} {en : α → List Value} {v : Value} {l : List α} (h : OwnL w base e size en v l) : OwnL w.drew base e size en v l := h
theorem row_on {w w' : World} {g : Nat} {o : Obj} (hb : Below w.heap.size w w') (h : w.heap[g]? = some o) : w'.heap[g]? = some o :=
  (hb.block g (Array.getElem?_eq_some_iff.1 h).1).trans h
theorem row5_set {w : World} {g : Nat} {t : TypeId} {a b c d e u : Value} (h : w.heap[g]? = some (.cells #[a, b, c, d, e] t (0, 0))) :
    (w.setCell ⟨g, 1, none⟩ u).heap[g]? = some (.cells #[a, u, c, d, e] t (0, 0)) ∧ (w.setCell ⟨g, 2, none⟩ u).heap[g]? = some (.cells #[a, b, u, d, e] t (0, 0)) ∧ (w.setCell ⟨g, 3, none⟩ u).heap[g]? = some (.cells #[a, b, c, u, e] t (0, 0)) ∧ (w.setCell ⟨g, 4, none⟩ u).heap[g]? = some (.cells #[a, b, c, d, u] t (0, 0)) :=
  ⟨heap_setCell_same w g 1 _ _ _ h, heap_setCell_same w g 2 _ _ _ h, heap_setCell_same w g 3 _ _ _ h, heap_setCell_same w g 4 _ _ _ h⟩
theorem row_past {w : World} {g g' j : Nat} {o : Obj} {u : Value} (h : w.heap[g]? = some o) (hne : g' ≠ g) : (w.setCell ⟨g', j, none⟩ u).heap[g]? = some o :=
  (Below.heap_setCell w ⟨g', j, none⟩ u g (fun e => hne e.symm)).trans h
/-- Heal, Stop, else Start -/
def Pu.runF (h st : Bool) (p : Pu.CoreD) : Pu.CoreD × Pu.ReplyD :=
  if h then (⟨p.kind, false, false, p.cells, p.count⟩, Pu.rp 0 0)
  else if st then (if p.on then (⟨p.kind, false, p.broken, p.cells, p.count⟩, Pu.rp 0 0) else (p, Pu.rp 2 0))
  else if p.on then (⟨p.kind, false, true, p.cells, p.count⟩, Pu.rp 3 0) else (⟨p.kind, true, p.broken, p.cells, Pu.upF p.count⟩, Pu.rp 0 0)
set_option maxHeartbeats 2000000 in
theorem l3Run_c (k m : ByteArray) (o b h st : Bool) (s : Value) (l : List Pu.CellD) (n : Int) (base : Nat) (w : World) (hs : OwnL w base 63 2 cellEn s l) (hbs : base ≤ w.heap.size) (hn0 : 0 ≤ n) (hh : (m.toList == [72, 101, 97, 108]) = h) (hst : (m.toList == [83, 116, 111, 112]) = st) (R : Pu.CoreD × Pu.ReplyD) (HR : Hid (Pu.runF h st ⟨k, o, b, l, n⟩ = R)) :
    Calls Tryz.prog 90 #[.agg #[.string k, .bool o, .bool b, s, .int .i64 n], .string m] w fun e w' => ∃ s', e = .returned (.tuple #[coreV R.1 s', replyV R.2]) ∧ OwnL w' base 63 2 cellEn s' R.1.cells ∧ Below w.heap.size w w' := by
  obtain ⟨A, c, rfl⟩ := hs.shape
  have HS := hide hs
  have hfar := fun g hg => (OwnL.lt hs (g := g) hg).2
  have HFAR := hide hfar
  clear hs hfar
  rcases h with _ | _
  · rcases st with _ | _
    · rcases o with _ | _
      · have HN : Hid (R = (⟨k, true, b, l, Pu.upF n⟩, Pu.rp 0 0)) := by rw [Hid, ← HR.out]; rfl
        go_enter Tryz.func90, Tryz.ntmps90
        go_wp2_with fail
        refine (l3Up_c n _ hn0).mono ?_; rintro e w1 ⟨rfl, rfl⟩
        go_wp2
        refine bodyPost_ret (v := .tuple #[.agg #[.string k, .bool true, .bool b, .slice A l.length c, .int .i64 (Pu.upF n)], .agg #[.int .i64 0, .int .i64 0, .string ⟨#[]⟩, .int .i64 0, .int .i64 0]]) (by simp [results, Tryz.results90, go_sem]) rfl ?_
        rw [HN.out]
        refine ⟨_, rfl, ?_, ?_⟩
        · exact OwnL.below HS.out (below_alloc (below_alloc (below_alloc (Below.refl _ _) _) _) _) (Nat.le_refl _)
        · exact below_alloc (below_alloc (below_alloc (Below.refl _ _) _) _) _
      · have HN : Hid (R = (⟨k, false, true, l, n⟩, Pu.rp 3 0)) := by rw [Hid, ← HR.out]; rfl
        go_enter Tryz.func90, Tryz.ntmps90
        go_wp2
        refine bodyPost_ret (v := .tuple #[.agg #[.string k, .bool false, .bool true, .slice A l.length c, .int .i64 n], .agg #[.int .i64 3, .int .i64 0, .string ⟨#[]⟩, .int .i64 0, .int .i64 0]]) (by simp [results, Tryz.results90, go_sem]) rfl ?_
        rw [HN.out]
        refine ⟨_, rfl, ?_, ?_⟩
        · exact OwnL.below HS.out (below_alloc (below_alloc (below_alloc (Below.refl _ _) _) _) _) (Nat.le_refl _)
        · exact below_alloc (below_alloc (below_alloc (Below.refl _ _) _) _) _
    · rcases o with _ | _
      · have HN : Hid (R = (⟨k, false, b, l, n⟩, Pu.rp 2 0)) := by rw [Hid, ← HR.out]; rfl
        go_enter Tryz.func90, Tryz.ntmps90
        go_wp2
        refine bodyPost_ret (v := .tuple #[.agg #[.string k, .bool false, .bool b, .slice A l.length c, .int .i64 n], .agg #[.int .i64 2, .int .i64 0, .string ⟨#[]⟩, .int .i64 0, .int .i64 0]]) (by simp [results, Tryz.results90, go_sem]) rfl ?_
        rw [HN.out]
        refine ⟨_, rfl, ?_, ?_⟩
        · exact OwnL.below HS.out (below_alloc (below_alloc (below_alloc (Below.refl _ _) _) _) _) (Nat.le_refl _)
        · exact below_alloc (below_alloc (below_alloc (Below.refl _ _) _) _) _
      · have HN : Hid (R = (⟨k, false, b, l, n⟩, Pu.rp 0 0)) := by rw [Hid, ← HR.out]; rfl
        go_enter Tryz.func90, Tryz.ntmps90
        go_wp2
        refine bodyPost_ret (v := .tuple #[.agg #[.string k, .bool false, .bool b, .slice A l.length c, .int .i64 n], .agg #[.int .i64 0, .int .i64 0, .string ⟨#[]⟩, .int .i64 0, .int .i64 0]]) (by simp [results, Tryz.results90, go_sem]) rfl ?_
        rw [HN.out]
        refine ⟨_, rfl, ?_, ?_⟩
        · exact OwnL.below HS.out (below_alloc (below_alloc (below_alloc (Below.refl _ _) _) _) _) (Nat.le_refl _)
        · exact below_alloc (below_alloc (below_alloc (Below.refl _ _) _) _) _
  · have HN : Hid (R = (⟨k, false, false, l, n⟩, Pu.rp 0 0)) := by rw [Hid, ← HR.out]; rfl
    go_enter Tryz.func90, Tryz.ntmps90
    go_wp2
    refine bodyPost_ret (v := .tuple #[.agg #[.string k, .bool false, .bool false, .slice A l.length c, .int .i64 n], .agg #[.int .i64 0, .int .i64 0, .string ⟨#[]⟩, .int .i64 0, .int .i64 0]]) (by simp [results, Tryz.results90, go_sem]) rfl ?_
    rw [HN.out]
    refine ⟨_, rfl, ?_, ?_⟩
    · exact OwnL.below HS.out (below_alloc (below_alloc (below_alloc (Below.refl _ _) _) _) _) (Nat.le_refl _)
    · exact below_alloc (below_alloc (below_alloc (Below.refl _ _) _) _) _
set_option maxHeartbeats 2000000 in
theorem l3Keep_off (k m key t : ByteArray) (v : Int) (b G : Bool) (I : Int) (s : Value) (l : List Pu.CellD) (n : Int) (base : Nat) (w : World) (R : Pu.CoreD × Pu.ReplyD) (hs : OwnL w base 63 2 cellEn s l) (hbs : base ≤ w.heap.size) (hlen : l.length ≤ 4) (hn0 : 0 ≤ n) (hG : (m.toList == [71, 101, 116]) = G) (HI : Hid (Pu.at3 key 0 l = I)) (HN : Hid (R = (⟨k, false, b, l, n⟩, Pu.rp 2 0))) :
    Calls Tryz.prog 86 #[.agg #[.string k, .bool false, .bool b, s, .int .i64 n], .agg #[.string m, .string key, .int .i64 v, .string t], .bool true] w fun e w' => ∃ s', e = .returned (.tuple #[coreV R.1 s', replyV R.2]) ∧ OwnL w' base 63 2 cellEn s' R.1.cells ∧ Below w.heap.size w w' := by
  obtain ⟨A, c, rfl⟩ := hs.shape
  have HS := hide hs
  have hfar0 := fun g hg => (OwnL.lt hs (g := g) hg).2
  have HFAR := hide hfar0
  clear hs hfar0
  go_enter Tryz.func86, Tryz.ntmps86
  obtain ⟨w0, hw0⟩ : ∃ w0, Hid ((((w.alloc (.cells #[.string k, .bool false, .bool b, .slice A l.length c, .int .i64 n] 31 : Obj)).alloc (.cells #[.string m, .string key, .int .i64 v, .string t] 37 : Obj)).alloc (.cells #[.string ⟨#[]⟩, .bool false, .bool false, .slice none 0 0, .int .i64 0] 31 : Obj)).alloc (.cells #[.int .i64 0, .int .i64 0, .string ⟨#[]⟩, .int .i64 0, .int .i64 0] 33 : Obj) = w0) := ⟨_, rfl⟩
  have b0 : Below w.heap.size w w0 := by rw [← hw0.out]; exact below_alloc (below_alloc (below_alloc (below_alloc (Below.refl _ _) _) _) _) _
  have Y0 := hide (show w0.heap[w.heap.size]? = some (.cells #[.string k, .bool false, .bool b, .slice A l.length c, .int .i64 n] 31 : Obj) by rw [← hw0.out]; exact heap_old (by simp <;> omega) (heap_old (by simp <;> omega) (heap_old (by simp <;> omega) (heap_new (by simp)))))
  have Y1 := hide (show w0.heap[w.heap.size + 1]? = some (.cells #[.string m, .string key, .int .i64 v, .string t] 37 : Obj) by rw [← hw0.out]; exact heap_old (by simp <;> omega) (heap_old (by simp <;> omega) (heap_new (by simp))))
  have Y2 := hide (show w0.heap[w.heap.size + 1 + 1]? = some (.cells #[.string ⟨#[]⟩, .bool false, .bool false, .slice none 0 0, .int .i64 0] 31 : Obj) by rw [← hw0.out]; exact heap_old (by simp <;> omega) (heap_new (by simp)))
  have Y3 := hide (show w0.heap[w.heap.size + 1 + 1 + 1]? = some (.cells #[.int .i64 0, .int .i64 0, .string ⟨#[]⟩, .int .i64 0, .int .i64 0] 33 : Obj) by rw [← hw0.out]; exact heap_new (by simp))
  have hs0 : Hid (w0.heap.size = w.heap.size + 1 + 1 + 1 + 1) := by rw [← hw0.out, Hid]; simp
  go_wp2_with fail
  rw [hw0.out]
  refine (l3At_c _ l key _ (RdL.below (HS.out.rd (fun _ => rfl)) b0 (Nat.le_refl _))).mono ?_; rintro e w1 ⟨rfl, b1⟩
  have B1 := below_then b0 b1
  have X0 := hide (row_on b1 Y0.out)
  have X1 := hide (row_on b1 Y1.out)
  have X2 := hide (row_on b1 Y2.out)
  have X3 := hide (row_on b1 Y3.out)
  have HO1 := hide (OwnL.below HS.out B1 (Nat.le_refl _))
  have hw1 : w.heap.size + 1 + 1 + 1 < w1.heap.size := (Array.getElem?_eq_some_iff.1 X3.out).1
  clear b1
  rw [HI.out]
  obtain ⟨_, _, _, _, _, _⟩ := five_cells X0.out
  obtain ⟨_, _, _, _, _⟩ := four_cells X1.out
  obtain ⟨d0, d1, d2, d3, d4, df⟩ := five_cells X2.out
  obtain ⟨e0, e1, e2, e3, e4, ef⟩ := five_cells X3.out
  go_wp2
  refine bodyPost_ret (v := .tuple #[.agg #[.string k, .bool false, .bool b, .slice A l.length c, .int .i64 n], .agg #[.int .i64 2, .int .i64 0, .string ⟨#[]⟩, .int .i64 0, .int .i64 0]]) (by simp [results, Tryz.results86, go_sem, d0, d1, d2, d3, d4, e0, e1, e2, e3, e4]) rfl ?_
  rw [HN.out]
  refine ⟨_, rfl, ?_, ?_⟩
  · skip
    iterate 10 refine OwnL.set' ?_ (by intro g hg; have := HFAR.out g hg; simp <;> omega) _
    exact HO1.out
  · skip
    iterate 10 refine below_set ?_ (by simp <;> omega) _
    exact B1
set_option maxHeartbeats 2000000 in
theorem l3Keep_none0 (k m key t : ByteArray) (v : Int) (o b : Bool) (s : Value) (l : List Pu.CellD) (n : Int) (base : Nat) (w : World) (R : Pu.CoreD × Pu.ReplyD) (hs : OwnL w base 63 2 cellEn s l) (hbs : base ≤ w.heap.size) (hlen : l.length ≤ 4) (hn0 : 0 ≤ n) (hG : (m.toList == [71, 101, 116]) = true) (HI : Hid (Pu.at3 key 0 l = -1)) (HN : Hid (R = (⟨k, o, b, l, n⟩, Pu.rp 4 0))) :
    Calls Tryz.prog 86 #[.agg #[.string k, .bool o, .bool b, s, .int .i64 n], .agg #[.string m, .string key, .int .i64 v, .string t], .bool false] w fun e w' => ∃ s', e = .returned (.tuple #[coreV R.1 s', replyV R.2]) ∧ OwnL w' base 63 2 cellEn s' R.1.cells ∧ Below w.heap.size w w' := by
  obtain ⟨A, c, rfl⟩ := hs.shape
  have HS := hide hs
  have hfar0 := fun g hg => (OwnL.lt hs (g := g) hg).2
  have HFAR := hide hfar0
  clear hs hfar0
  go_enter Tryz.func86, Tryz.ntmps86
  obtain ⟨w0, hw0⟩ : ∃ w0, Hid ((((w.alloc (.cells #[.string k, .bool o, .bool b, .slice A l.length c, .int .i64 n] 31 : Obj)).alloc (.cells #[.string m, .string key, .int .i64 v, .string t] 37 : Obj)).alloc (.cells #[.string ⟨#[]⟩, .bool false, .bool false, .slice none 0 0, .int .i64 0] 31 : Obj)).alloc (.cells #[.int .i64 0, .int .i64 0, .string ⟨#[]⟩, .int .i64 0, .int .i64 0] 33 : Obj) = w0) := ⟨_, rfl⟩
  have b0 : Below w.heap.size w w0 := by rw [← hw0.out]; exact below_alloc (below_alloc (below_alloc (below_alloc (Below.refl _ _) _) _) _) _
  have Y0 := hide (show w0.heap[w.heap.size]? = some (.cells #[.string k, .bool o, .bool b, .slice A l.length c, .int .i64 n] 31 : Obj) by rw [← hw0.out]; exact heap_old (by simp <;> omega) (heap_old (by simp <;> omega) (heap_old (by simp <;> omega) (heap_new (by simp)))))
  have Y1 := hide (show w0.heap[w.heap.size + 1]? = some (.cells #[.string m, .string key, .int .i64 v, .string t] 37 : Obj) by rw [← hw0.out]; exact heap_old (by simp <;> omega) (heap_old (by simp <;> omega) (heap_new (by simp))))
  have Y2 := hide (show w0.heap[w.heap.size + 1 + 1]? = some (.cells #[.string ⟨#[]⟩, .bool false, .bool false, .slice none 0 0, .int .i64 0] 31 : Obj) by rw [← hw0.out]; exact heap_old (by simp <;> omega) (heap_new (by simp)))
  have Y3 := hide (show w0.heap[w.heap.size + 1 + 1 + 1]? = some (.cells #[.int .i64 0, .int .i64 0, .string ⟨#[]⟩, .int .i64 0, .int .i64 0] 33 : Obj) by rw [← hw0.out]; exact heap_new (by simp))
  have hs0 : Hid (w0.heap.size = w.heap.size + 1 + 1 + 1 + 1) := by rw [← hw0.out, Hid]; simp
  go_wp2_with fail
  rw [hw0.out]
  refine (l3At_c _ l key _ (RdL.below (HS.out.rd (fun _ => rfl)) b0 (Nat.le_refl _))).mono ?_; rintro e w1 ⟨rfl, b1⟩
  have B1 := below_then b0 b1
  have X0 := hide (row_on b1 Y0.out)
  have X1 := hide (row_on b1 Y1.out)
  have X2 := hide (row_on b1 Y2.out)
  have X3 := hide (row_on b1 Y3.out)
  have HO1 := hide (OwnL.below HS.out B1 (Nat.le_refl _))
  have hw1 : w.heap.size + 1 + 1 + 1 < w1.heap.size := (Array.getElem?_eq_some_iff.1 X3.out).1
  clear b1
  rw [HI.out]
  obtain ⟨_, _, _, _, _, _⟩ := five_cells X0.out
  obtain ⟨_, _, _, _, _⟩ := four_cells X1.out
  obtain ⟨d0, d1, d2, d3, d4, df⟩ := five_cells X2.out
  obtain ⟨e0, e1, e2, e3, e4, ef⟩ := five_cells X3.out
  go_wp2
  refine bodyPost_ret (v := .tuple #[.agg #[.string k, .bool o, .bool b, .slice A l.length c, .int .i64 n], .agg #[.int .i64 4, .int .i64 0, .string ⟨#[]⟩, .int .i64 0, .int .i64 0]]) (by simp [results, Tryz.results86, go_sem, d0, d1, d2, d3, d4, e0, e1, e2, e3, e4]) rfl ?_
  rw [HN.out]
  refine ⟨_, rfl, ?_, ?_⟩
  · skip
    iterate 10 refine OwnL.set' ?_ (by intro g hg; have := HFAR.out g hg; simp <;> omega) _
    exact HO1.out
  · skip
    iterate 10 refine below_set ?_ (by simp <;> omega) _
    exact B1
set_option maxHeartbeats 2000000 in
theorem l3Keep_full0 (k m key t : ByteArray) (v : Int) (o b : Bool) (s : Value) (l : List Pu.CellD) (n : Int) (base : Nat) (w : World) (R : Pu.CoreD × Pu.ReplyD) (hs : OwnL w base 63 2 cellEn s l) (hbs : base ≤ w.heap.size) (hlen : l.length ≤ 4) (hn0 : 0 ≤ n) (hG : (m.toList == [71, 101, 116]) = false) (h4i : (l.length : Int) = 4) (HI : Hid (Pu.at3 key 0 l = -1)) (HN : Hid (R = (⟨k, o, b, l, n⟩, Pu.rp 5 0))) :
    Calls Tryz.prog 86 #[.agg #[.string k, .bool o, .bool b, s, .int .i64 n], .agg #[.string m, .string key, .int .i64 v, .string t], .bool false] w fun e w' => ∃ s', e = .returned (.tuple #[coreV R.1 s', replyV R.2]) ∧ OwnL w' base 63 2 cellEn s' R.1.cells ∧ Below w.heap.size w w' := by
  obtain ⟨A, c, rfl⟩ := hs.shape
  have HS := hide hs
  have hfar0 := fun g hg => (OwnL.lt hs (g := g) hg).2
  have HFAR := hide hfar0
  clear hs hfar0
  go_enter Tryz.func86, Tryz.ntmps86
  obtain ⟨w0, hw0⟩ : ∃ w0, Hid ((((w.alloc (.cells #[.string k, .bool o, .bool b, .slice A l.length c, .int .i64 n] 31 : Obj)).alloc (.cells #[.string m, .string key, .int .i64 v, .string t] 37 : Obj)).alloc (.cells #[.string ⟨#[]⟩, .bool false, .bool false, .slice none 0 0, .int .i64 0] 31 : Obj)).alloc (.cells #[.int .i64 0, .int .i64 0, .string ⟨#[]⟩, .int .i64 0, .int .i64 0] 33 : Obj) = w0) := ⟨_, rfl⟩
  have b0 : Below w.heap.size w w0 := by rw [← hw0.out]; exact below_alloc (below_alloc (below_alloc (below_alloc (Below.refl _ _) _) _) _) _
  have Y0 := hide (show w0.heap[w.heap.size]? = some (.cells #[.string k, .bool o, .bool b, .slice A l.length c, .int .i64 n] 31 : Obj) by rw [← hw0.out]; exact heap_old (by simp <;> omega) (heap_old (by simp <;> omega) (heap_old (by simp <;> omega) (heap_new (by simp)))))
  have Y1 := hide (show w0.heap[w.heap.size + 1]? = some (.cells #[.string m, .string key, .int .i64 v, .string t] 37 : Obj) by rw [← hw0.out]; exact heap_old (by simp <;> omega) (heap_old (by simp <;> omega) (heap_new (by simp))))
  have Y2 := hide (show w0.heap[w.heap.size + 1 + 1]? = some (.cells #[.string ⟨#[]⟩, .bool false, .bool false, .slice none 0 0, .int .i64 0] 31 : Obj) by rw [← hw0.out]; exact heap_old (by simp <;> omega) (heap_new (by simp)))
  have Y3 := hide (show w0.heap[w.heap.size + 1 + 1 + 1]? = some (.cells #[.int .i64 0, .int .i64 0, .string ⟨#[]⟩, .int .i64 0, .int .i64 0] 33 : Obj) by rw [← hw0.out]; exact heap_new (by simp))
  have hs0 : Hid (w0.heap.size = w.heap.size + 1 + 1 + 1 + 1) := by rw [← hw0.out, Hid]; simp
  go_wp2_with fail
  rw [hw0.out]
  refine (l3At_c _ l key _ (RdL.below (HS.out.rd (fun _ => rfl)) b0 (Nat.le_refl _))).mono ?_; rintro e w1 ⟨rfl, b1⟩
  have B1 := below_then b0 b1
  have X0 := hide (row_on b1 Y0.out)
  have X1 := hide (row_on b1 Y1.out)
  have X2 := hide (row_on b1 Y2.out)
  have X3 := hide (row_on b1 Y3.out)
  have HO1 := hide (OwnL.below HS.out B1 (Nat.le_refl _))
  have hw1 : w.heap.size + 1 + 1 + 1 < w1.heap.size := (Array.getElem?_eq_some_iff.1 X3.out).1
  clear b1
  rw [HI.out]
  obtain ⟨_, _, _, _, _, _⟩ := five_cells X0.out
  obtain ⟨_, _, _, _, _⟩ := four_cells X1.out
  obtain ⟨d0, d1, d2, d3, d4, df⟩ := five_cells X2.out
  obtain ⟨e0, e1, e2, e3, e4, ef⟩ := five_cells X3.out
  go_wp2
  refine bodyPost_ret (v := .tuple #[.agg #[.string k, .bool o, .bool b, .slice A l.length c, .int .i64 n], .agg #[.int .i64 5, .int .i64 0, .string ⟨#[]⟩, .int .i64 0, .int .i64 0]]) (by simp [results, Tryz.results86, go_sem, d0, d1, d2, d3, d4, e0, e1, e2, e3, e4]) rfl ?_
  rw [HN.out]
  refine ⟨_, rfl, ?_, ?_⟩
  · skip
    iterate 10 refine OwnL.set' ?_ (by intro g hg; have := HFAR.out g hg; simp <;> omega) _
    exact HO1.out
  · skip
    iterate 10 refine below_set ?_ (by simp <;> omega) _
    exact B1
set_option maxHeartbeats 2000000 in
theorem l3Keep_got0 (k m key t : ByteArray) (v : Int) (o b : Bool) (s : Value) (l : List Pu.CellD) (n : Int) (base : Nat) (w : World) (R : Pu.CoreD × Pu.ReplyD) (hs : OwnL w base 63 2 cellEn s l) (hbs : base ≤ w.heap.size) (hlen : l.length ≤ 4) (hn0 : 0 ≤ n) (hG : (m.toList == [71, 101, 116]) = true) (N : Nat) (hlt : N < l.length) (y : Pu.CellD) (HY : Hid (l[N]? = some y)) (HI : Hid (Pu.at3 key 0 l = (N : Int))) (HN : Hid (R = (⟨k, o, b, l, n⟩, Pu.rp 0 y.val))) :
    Calls Tryz.prog 86 #[.agg #[.string k, .bool o, .bool b, s, .int .i64 n], .agg #[.string m, .string key, .int .i64 v, .string t], .bool false] w fun e w' => ∃ s', e = .returned (.tuple #[coreV R.1 s', replyV R.2]) ∧ OwnL w' base 63 2 cellEn s' R.1.cells ∧ Below w.heap.size w w' := by
  obtain ⟨A, c, rfl⟩ := hs.shape
  have HS := hide hs
  have hfar0 := fun g hg => (OwnL.lt hs (g := g) hg).2
  have HFAR := hide hfar0
  clear hs hfar0
  go_enter Tryz.func86, Tryz.ntmps86
  obtain ⟨w0, hw0⟩ : ∃ w0, Hid ((((w.alloc (.cells #[.string k, .bool o, .bool b, .slice A l.length c, .int .i64 n] 31 : Obj)).alloc (.cells #[.string m, .string key, .int .i64 v, .string t] 37 : Obj)).alloc (.cells #[.string ⟨#[]⟩, .bool false, .bool false, .slice none 0 0, .int .i64 0] 31 : Obj)).alloc (.cells #[.int .i64 0, .int .i64 0, .string ⟨#[]⟩, .int .i64 0, .int .i64 0] 33 : Obj) = w0) := ⟨_, rfl⟩
  have b0 : Below w.heap.size w w0 := by rw [← hw0.out]; exact below_alloc (below_alloc (below_alloc (below_alloc (Below.refl _ _) _) _) _) _
  have Y0 := hide (show w0.heap[w.heap.size]? = some (.cells #[.string k, .bool o, .bool b, .slice A l.length c, .int .i64 n] 31 : Obj) by rw [← hw0.out]; exact heap_old (by simp <;> omega) (heap_old (by simp <;> omega) (heap_old (by simp <;> omega) (heap_new (by simp)))))
  have Y1 := hide (show w0.heap[w.heap.size + 1]? = some (.cells #[.string m, .string key, .int .i64 v, .string t] 37 : Obj) by rw [← hw0.out]; exact heap_old (by simp <;> omega) (heap_old (by simp <;> omega) (heap_new (by simp))))
  have Y2 := hide (show w0.heap[w.heap.size + 1 + 1]? = some (.cells #[.string ⟨#[]⟩, .bool false, .bool false, .slice none 0 0, .int .i64 0] 31 : Obj) by rw [← hw0.out]; exact heap_old (by simp <;> omega) (heap_new (by simp)))
  have Y3 := hide (show w0.heap[w.heap.size + 1 + 1 + 1]? = some (.cells #[.int .i64 0, .int .i64 0, .string ⟨#[]⟩, .int .i64 0, .int .i64 0] 33 : Obj) by rw [← hw0.out]; exact heap_new (by simp))
  have hs0 : Hid (w0.heap.size = w.heap.size + 1 + 1 + 1 + 1) := by rw [← hw0.out, Hid]; simp
  go_wp2_with fail
  rw [hw0.out]
  refine (l3At_c _ l key _ (RdL.below (HS.out.rd (fun _ => rfl)) b0 (Nat.le_refl _))).mono ?_; rintro e w1 ⟨rfl, b1⟩
  have B1 := below_then b0 b1
  have X0 := hide (row_on b1 Y0.out)
  have X1 := hide (row_on b1 Y1.out)
  have X2 := hide (row_on b1 Y2.out)
  have X3 := hide (row_on b1 Y3.out)
  have HO1 := hide (OwnL.below HS.out B1 (Nat.le_refl _))
  have hw1 : w.heap.size + 1 + 1 + 1 < w1.heap.size := (Array.getElem?_eq_some_iff.1 X3.out).1
  clear b1
  rw [HI.out]
  obtain ⟨_, _, _, _, _, _⟩ := five_cells X0.out
  obtain ⟨_, _, _, _, _⟩ := four_cells X1.out
  obtain ⟨d0, d1, d2, d3, d4, df⟩ := five_cells X2.out
  obtain ⟨e0, e1, e2, e3, e4, ef⟩ := five_cells X3.out
  obtain ⟨A9, c9, hA9, hlc, hcm, hA⟩ := RdL.open_ (OwnL.rd (size := 2) (en := cellEn) (fun _ => rfl) HO1.out)
  obtain ⟨rfl, rfl⟩ : A = A9 ∧ c = c9 := by injection hA9 with h1 h2 h3; exact ⟨h1, h3⟩
  clear hA9
  obtain ⟨g, oo, rfl, hgl, HC⟩ := RdAt.at_ hA (by omega)
  obtain ⟨y9, HY9, y0, y1⟩ := cell_get HC (Below.refl _ _) hlt
  obtain rfl : y9 = y := Option.some.inj (HY9.out.symm.trans HY.out)
  clear hA
  have hgw : g < w.heap.size := HFAR.out g rfl
  have hna2 : ¬ g = w.heap.size + 1 + 1 := by omega
  have hnb2 : ¬ w.heap.size + 1 + 1 = g := by omega
  have hna3 : ¬ g = w.heap.size + 1 + 1 + 1 := by omega
  have hnb3 : ¬ w.heap.size + 1 + 1 + 1 = g := by omega
  go_wp2_with fail
  go_region
  go_wp2
  refine bodyPost_ret (v := .tuple #[.agg #[.string k, .bool o, .bool b, .slice (some ⟨g, oo, none⟩) l.length c, .int .i64 n], .agg #[.int .i64 0, .int .i64 y9.val, .string ⟨#[]⟩, .int .i64 0, .int .i64 0]]) (by simp [results, Tryz.results86, go_sem, d0, d1, d2, d3, d4, e0, e1, e2, e3, e4]) rfl ?_
  rw [HN.out]
  refine ⟨_, rfl, ?_, ?_⟩
  · refine own_drew ?_
    iterate 10 refine OwnL.set' ?_ (by intro g hg; have := HFAR.out g hg; simp <;> omega) _
    exact HO1.out
  · refine Below.drew ?_
    iterate 10 refine below_set ?_ (by simp <;> omega) _
    exact B1
set_option maxHeartbeats 2000000 in
theorem l3Keep_put00 (k m key t : ByteArray) (v : Int) (o b : Bool) (s : Value) (l : List Pu.CellD) (n : Int) (base : Nat) (w : World) (R : Pu.CoreD × Pu.ReplyD) (hs : OwnL w base 63 2 cellEn s l) (hbs : base ≤ w.heap.size) (hlen : l.length ≤ 4) (hn0 : 0 ≤ n) (hG : (m.toList == [71, 101, 116]) = false) (h4 : l.length < 4) (L : List Pu.CellD) (HPUT : Hid (Pu.put3 key v false l = L)) (HI : Hid (Pu.at3 key 0 l = -1)) (HN : Hid (R = (⟨k, o, b, L, Pu.upF n⟩, Pu.rp 0 L.length))) :
    Calls Tryz.prog 86 #[.agg #[.string k, .bool o, .bool b, s, .int .i64 n], .agg #[.string m, .string key, .int .i64 v, .string t], .bool false] w fun e w' => ∃ s', e = .returned (.tuple #[coreV R.1 s', replyV R.2]) ∧ OwnL w' base 63 2 cellEn s' R.1.cells ∧ Below w.heap.size w w' := by
  obtain ⟨A, c, rfl⟩ := hs.shape
  have HS := hide hs
  have hfar0 := fun g hg => (OwnL.lt hs (g := g) hg).2
  have HFAR := hide hfar0
  clear hs hfar0
  go_enter Tryz.func86, Tryz.ntmps86
  obtain ⟨w0, hw0⟩ : ∃ w0, Hid ((((w.alloc (.cells #[.string k, .bool o, .bool b, .slice A l.length c, .int .i64 n] 31 : Obj)).alloc (.cells #[.string m, .string key, .int .i64 v, .string t] 37 : Obj)).alloc (.cells #[.string ⟨#[]⟩, .bool false, .bool false, .slice none 0 0, .int .i64 0] 31 : Obj)).alloc (.cells #[.int .i64 0, .int .i64 0, .string ⟨#[]⟩, .int .i64 0, .int .i64 0] 33 : Obj) = w0) := ⟨_, rfl⟩
  have b0 : Below w.heap.size w w0 := by rw [← hw0.out]; exact below_alloc (below_alloc (below_alloc (below_alloc (Below.refl _ _) _) _) _) _
  have Y0 := hide (show w0.heap[w.heap.size]? = some (.cells #[.string k, .bool o, .bool b, .slice A l.length c, .int .i64 n] 31 : Obj) by rw [← hw0.out]; exact heap_old (by simp <;> omega) (heap_old (by simp <;> omega) (heap_old (by simp <;> omega) (heap_new (by simp)))))
  have Y1 := hide (show w0.heap[w.heap.size + 1]? = some (.cells #[.string m, .string key, .int .i64 v, .string t] 37 : Obj) by rw [← hw0.out]; exact heap_old (by simp <;> omega) (heap_old (by simp <;> omega) (heap_new (by simp))))
  have Y2 := hide (show w0.heap[w.heap.size + 1 + 1]? = some (.cells #[.string ⟨#[]⟩, .bool false, .bool false, .slice none 0 0, .int .i64 0] 31 : Obj) by rw [← hw0.out]; exact heap_old (by simp <;> omega) (heap_new (by simp)))
  have Y3 := hide (show w0.heap[w.heap.size + 1 + 1 + 1]? = some (.cells #[.int .i64 0, .int .i64 0, .string ⟨#[]⟩, .int .i64 0, .int .i64 0] 33 : Obj) by rw [← hw0.out]; exact heap_new (by simp))
  have hs0 : Hid (w0.heap.size = w.heap.size + 1 + 1 + 1 + 1) := by rw [← hw0.out, Hid]; simp
  go_wp2_with fail
  rw [hw0.out]
  refine (l3At_c _ l key _ (RdL.below (HS.out.rd (fun _ => rfl)) b0 (Nat.le_refl _))).mono ?_; rintro e w1 ⟨rfl, b1⟩
  have B1 := below_then b0 b1
  have X0 := hide (row_on b1 Y0.out)
  have X1 := hide (row_on b1 Y1.out)
  have X2 := hide (row_on b1 Y2.out)
  have X3 := hide (row_on b1 Y3.out)
  have HO1 := hide (OwnL.below HS.out B1 (Nat.le_refl _))
  have hw1 : w.heap.size + 1 + 1 + 1 < w1.heap.size := (Array.getElem?_eq_some_iff.1 X3.out).1
  clear b1
  rw [HI.out]
  obtain ⟨_, _, _, _, _, _⟩ := five_cells X0.out
  obtain ⟨_, _, _, _, _⟩ := four_cells X1.out
  obtain ⟨d0, d1, d2, d3, d4, df⟩ := five_cells X2.out
  obtain ⟨e0, e1, e2, e3, e4, ef⟩ := five_cells X3.out
  have h4i : ¬ (l.length : Int) = 4 := by omega
  go_wp2_with fail
  refine (l3Put_c _ l key v _ (HO1.out.rd (fun _ => rfl)) (by omega)).mono ?_; rintro e w2 ⟨v2, rfl, o2, b2⟩
  rw [HPUT.out] at o2
  obtain ⟨A2, c2, rfl⟩ := o2.shape
  have B2 := below_then B1 b2
  obtain ⟨w3, hw3⟩ : ∃ w3, Hid (w2.setCell ⟨w.heap.size, 3, none⟩ (.slice A2 L.length c2) = w3) := ⟨_, rfl⟩
  have B3 : Below w.heap.size w w3 := by rw [← hw3.out]; exact below_set B2 (Nat.le_refl _) _
  have Z0 := hide (show w3.heap[w.heap.size]? = some (.cells #[.string k, .bool o, .bool b, .slice A2 L.length c2, .int .i64 n] 31 : Obj) by rw [← hw3.out]; exact (row5_set (row_on b2 X0.out)).2.2.1)
  have Z1 := hide (show w3.heap[w.heap.size + 1]? = some (.cells #[.string m, .string key, .int .i64 v, .string t] 37 : Obj) by rw [← hw3.out]; exact row_past (row_on b2 X1.out) (by omega))
  have Z2 := hide (show w3.heap[w.heap.size + 1 + 1]? = some (.cells #[.string ⟨#[]⟩, .bool false, .bool false, .slice none 0 0, .int .i64 0] 31 : Obj) by rw [← hw3.out]; exact row_past (row_on b2 X2.out) (by omega))
  have Z3 := hide (show w3.heap[w.heap.size + 1 + 1 + 1]? = some (.cells #[.int .i64 0, .int .i64 0, .string ⟨#[]⟩, .int .i64 0, .int .i64 0] 33 : Obj) by rw [← hw3.out]; exact row_past (row_on b2 X3.out) (by omega))
  have O3 : OwnL w3 w1.heap.size 63 2 cellEn (.slice A2 L.length c2) L := by rw [← hw3.out]; exact OwnL.set' o2 (by intro g hg; have := (OwnL.lt o2 hg).1; simp; omega) _
  obtain ⟨_, _, _, _, _, _⟩ := five_cells (row_on b2 X0.out)
  have HF3 := hide (fun g hg => (OwnL.lt O3 (g := g) hg).1)
  have HO3 := hide O3
  clear O3 o2 b2
  obtain ⟨_, _, _, _, _, _⟩ := five_cells Z0.out
  obtain ⟨_, _, _, _, _⟩ := four_cells Z1.out
  obtain ⟨d0, d1, d2, d3, d4, df⟩ := five_cells Z2.out
  obtain ⟨e0, e1, e2, e3, e4, ef⟩ := five_cells Z3.out
  go_wp2_with fail
  rw [hw3.out]
  refine (l3Up_c n _ hn0).mono ?_; rintro e w3b ⟨rfl, rfl⟩
  obtain ⟨w4, hw4⟩ : ∃ w4, Hid (w3.setCell ⟨w.heap.size, 4, none⟩ (.int .i64 (Pu.upF n)) = w4) := ⟨_, rfl⟩
  have B4 : Below w.heap.size w w4 := by rw [← hw4.out]; exact below_set B3 (Nat.le_refl _) _
  have V0 := hide (show w4.heap[w.heap.size]? = some (.cells #[.string k, .bool o, .bool b, .slice A2 L.length c2, .int .i64 (Pu.upF n)] 31 : Obj) by rw [← hw4.out]; exact (row5_set Z0.out).2.2.2)
  have V1 := hide (show w4.heap[w.heap.size + 1]? = some (.cells #[.string m, .string key, .int .i64 v, .string t] 37 : Obj) by rw [← hw4.out]; exact row_past Z1.out (by omega))
  have V2 := hide (show w4.heap[w.heap.size + 1 + 1]? = some (.cells #[.string ⟨#[]⟩, .bool false, .bool false, .slice none 0 0, .int .i64 0] 31 : Obj) by rw [← hw4.out]; exact row_past Z2.out (by omega))
  have V3 := hide (show w4.heap[w.heap.size + 1 + 1 + 1]? = some (.cells #[.int .i64 0, .int .i64 0, .string ⟨#[]⟩, .int .i64 0, .int .i64 0] 33 : Obj) by rw [← hw4.out]; exact row_past Z3.out (by omega))
  have HO4 : Hid (OwnL w4 w1.heap.size 63 2 cellEn (.slice A2 L.length c2) L) := by rw [← hw4.out]; exact OwnL.set' HO3.out (by intro g hg; have := HF3.out g hg; simp; omega) _
  go_wp2_with fail
  rw [hw4.out]
  obtain ⟨_, _, _, _, _, _⟩ := five_cells V0.out
  obtain ⟨_, _, _, _, _⟩ := four_cells V1.out
  obtain ⟨d0, d1, d2, d3, d4, df⟩ := five_cells V2.out
  obtain ⟨e0, e1, e2, e3, e4, ef⟩ := five_cells V3.out
  go_region
  go_wp2
  refine bodyPost_ret (v := .tuple #[.agg #[.string k, .bool o, .bool b, .slice A2 L.length c2, .int .i64 (Pu.upF n)], .agg #[.int .i64 0, .int .i64 L.length, .string ⟨#[]⟩, .int .i64 0, .int .i64 0]]) (by simp [results, Tryz.results86, go_sem, d0, d1, d2, d3, d4, e0, e1, e2, e3, e4]) rfl ?_
  rw [HN.out]
  refine ⟨_, rfl, ?_, ?_⟩
  · refine own_drew ?_
    iterate 10 refine OwnL.set' ?_ (by intro g hg; have := HF3.out g hg; simp <;> omega) _
    exact HO4.out.mono (by omega)
  · refine Below.drew ?_
    iterate 10 refine below_set ?_ (by simp <;> omega) _
    exact B4
set_option maxHeartbeats 2000000 in
theorem l3Keep_put01 (k m key t : ByteArray) (v : Int) (o b : Bool) (s : Value) (l : List Pu.CellD) (n : Int) (base : Nat) (w : World) (R : Pu.CoreD × Pu.ReplyD) (hs : OwnL w base 63 2 cellEn s l) (hbs : base ≤ w.heap.size) (hlen : l.length ≤ 4) (hn0 : 0 ≤ n) (hG : (m.toList == [71, 101, 116]) = false) (N : Nat) (L : List Pu.CellD) (HPUT : Hid (Pu.put3 key v false l = L)) (HI : Hid (Pu.at3 key 0 l = (N : Int))) (HN : Hid (R = (⟨k, o, b, L, Pu.upF n⟩, Pu.rp 0 L.length))) :
    Calls Tryz.prog 86 #[.agg #[.string k, .bool o, .bool b, s, .int .i64 n], .agg #[.string m, .string key, .int .i64 v, .string t], .bool false] w fun e w' => ∃ s', e = .returned (.tuple #[coreV R.1 s', replyV R.2]) ∧ OwnL w' base 63 2 cellEn s' R.1.cells ∧ Below w.heap.size w w' := by
  obtain ⟨A, c, rfl⟩ := hs.shape
  have HS := hide hs
  have hfar0 := fun g hg => (OwnL.lt hs (g := g) hg).2
  have HFAR := hide hfar0
  clear hs hfar0
  go_enter Tryz.func86, Tryz.ntmps86
  obtain ⟨w0, hw0⟩ : ∃ w0, Hid ((((w.alloc (.cells #[.string k, .bool o, .bool b, .slice A l.length c, .int .i64 n] 31 : Obj)).alloc (.cells #[.string m, .string key, .int .i64 v, .string t] 37 : Obj)).alloc (.cells #[.string ⟨#[]⟩, .bool false, .bool false, .slice none 0 0, .int .i64 0] 31 : Obj)).alloc (.cells #[.int .i64 0, .int .i64 0, .string ⟨#[]⟩, .int .i64 0, .int .i64 0] 33 : Obj) = w0) := ⟨_, rfl⟩
  have b0 : Below w.heap.size w w0 := by rw [← hw0.out]; exact below_alloc (below_alloc (below_alloc (below_alloc (Below.refl _ _) _) _) _) _
  have Y0 := hide (show w0.heap[w.heap.size]? = some (.cells #[.string k, .bool o, .bool b, .slice A l.length c, .int .i64 n] 31 : Obj) by rw [← hw0.out]; exact heap_old (by simp <;> omega) (heap_old (by simp <;> omega) (heap_old (by simp <;> omega) (heap_new (by simp)))))
  have Y1 := hide (show w0.heap[w.heap.size + 1]? = some (.cells #[.string m, .string key, .int .i64 v, .string t] 37 : Obj) by rw [← hw0.out]; exact heap_old (by simp <;> omega) (heap_old (by simp <;> omega) (heap_new (by simp))))
  have Y2 := hide (show w0.heap[w.heap.size + 1 + 1]? = some (.cells #[.string ⟨#[]⟩, .bool false, .bool false, .slice none 0 0, .int .i64 0] 31 : Obj) by rw [← hw0.out]; exact heap_old (by simp <;> omega) (heap_new (by simp)))
  have Y3 := hide (show w0.heap[w.heap.size + 1 + 1 + 1]? = some (.cells #[.int .i64 0, .int .i64 0, .string ⟨#[]⟩, .int .i64 0, .int .i64 0] 33 : Obj) by rw [← hw0.out]; exact heap_new (by simp))
  have hs0 : Hid (w0.heap.size = w.heap.size + 1 + 1 + 1 + 1) := by rw [← hw0.out, Hid]; simp
  go_wp2_with fail
  rw [hw0.out]
  refine (l3At_c _ l key _ (RdL.below (HS.out.rd (fun _ => rfl)) b0 (Nat.le_refl _))).mono ?_; rintro e w1 ⟨rfl, b1⟩
  have B1 := below_then b0 b1
  have X0 := hide (row_on b1 Y0.out)
  have X1 := hide (row_on b1 Y1.out)
  have X2 := hide (row_on b1 Y2.out)
  have X3 := hide (row_on b1 Y3.out)
  have HO1 := hide (OwnL.below HS.out B1 (Nat.le_refl _))
  have hw1 : w.heap.size + 1 + 1 + 1 < w1.heap.size := (Array.getElem?_eq_some_iff.1 X3.out).1
  clear b1
  rw [HI.out]
  obtain ⟨_, _, _, _, _, _⟩ := five_cells X0.out
  obtain ⟨_, _, _, _, _⟩ := four_cells X1.out
  obtain ⟨d0, d1, d2, d3, d4, df⟩ := five_cells X2.out
  obtain ⟨e0, e1, e2, e3, e4, ef⟩ := five_cells X3.out
  go_wp2_with fail
  refine (l3Put_c _ l key v _ (HO1.out.rd (fun _ => rfl)) (by omega)).mono ?_; rintro e w2 ⟨v2, rfl, o2, b2⟩
  rw [HPUT.out] at o2
  obtain ⟨A2, c2, rfl⟩ := o2.shape
  have B2 := below_then B1 b2
  obtain ⟨w3, hw3⟩ : ∃ w3, Hid (w2.setCell ⟨w.heap.size, 3, none⟩ (.slice A2 L.length c2) = w3) := ⟨_, rfl⟩
  have B3 : Below w.heap.size w w3 := by rw [← hw3.out]; exact below_set B2 (Nat.le_refl _) _
  have Z0 := hide (show w3.heap[w.heap.size]? = some (.cells #[.string k, .bool o, .bool b, .slice A2 L.length c2, .int .i64 n] 31 : Obj) by rw [← hw3.out]; exact (row5_set (row_on b2 X0.out)).2.2.1)
  have Z1 := hide (show w3.heap[w.heap.size + 1]? = some (.cells #[.string m, .string key, .int .i64 v, .string t] 37 : Obj) by rw [← hw3.out]; exact row_past (row_on b2 X1.out) (by omega))
  have Z2 := hide (show w3.heap[w.heap.size + 1 + 1]? = some (.cells #[.string ⟨#[]⟩, .bool false, .bool false, .slice none 0 0, .int .i64 0] 31 : Obj) by rw [← hw3.out]; exact row_past (row_on b2 X2.out) (by omega))
  have Z3 := hide (show w3.heap[w.heap.size + 1 + 1 + 1]? = some (.cells #[.int .i64 0, .int .i64 0, .string ⟨#[]⟩, .int .i64 0, .int .i64 0] 33 : Obj) by rw [← hw3.out]; exact row_past (row_on b2 X3.out) (by omega))
  have O3 : OwnL w3 w1.heap.size 63 2 cellEn (.slice A2 L.length c2) L := by rw [← hw3.out]; exact OwnL.set' o2 (by intro g hg; have := (OwnL.lt o2 hg).1; simp; omega) _
  obtain ⟨_, _, _, _, _, _⟩ := five_cells (row_on b2 X0.out)
  have HF3 := hide (fun g hg => (OwnL.lt O3 (g := g) hg).1)
  have HO3 := hide O3
  clear O3 o2 b2
  obtain ⟨_, _, _, _, _, _⟩ := five_cells Z0.out
  obtain ⟨_, _, _, _, _⟩ := four_cells Z1.out
  obtain ⟨d0, d1, d2, d3, d4, df⟩ := five_cells Z2.out
  obtain ⟨e0, e1, e2, e3, e4, ef⟩ := five_cells Z3.out
  go_wp2_with fail
  rw [hw3.out]
  refine (l3Up_c n _ hn0).mono ?_; rintro e w3b ⟨rfl, rfl⟩
  obtain ⟨w4, hw4⟩ : ∃ w4, Hid (w3.setCell ⟨w.heap.size, 4, none⟩ (.int .i64 (Pu.upF n)) = w4) := ⟨_, rfl⟩
  have B4 : Below w.heap.size w w4 := by rw [← hw4.out]; exact below_set B3 (Nat.le_refl _) _
  have V0 := hide (show w4.heap[w.heap.size]? = some (.cells #[.string k, .bool o, .bool b, .slice A2 L.length c2, .int .i64 (Pu.upF n)] 31 : Obj) by rw [← hw4.out]; exact (row5_set Z0.out).2.2.2)
  have V1 := hide (show w4.heap[w.heap.size + 1]? = some (.cells #[.string m, .string key, .int .i64 v, .string t] 37 : Obj) by rw [← hw4.out]; exact row_past Z1.out (by omega))
  have V2 := hide (show w4.heap[w.heap.size + 1 + 1]? = some (.cells #[.string ⟨#[]⟩, .bool false, .bool false, .slice none 0 0, .int .i64 0] 31 : Obj) by rw [← hw4.out]; exact row_past Z2.out (by omega))
  have V3 := hide (show w4.heap[w.heap.size + 1 + 1 + 1]? = some (.cells #[.int .i64 0, .int .i64 0, .string ⟨#[]⟩, .int .i64 0, .int .i64 0] 33 : Obj) by rw [← hw4.out]; exact row_past Z3.out (by omega))
  have HO4 : Hid (OwnL w4 w1.heap.size 63 2 cellEn (.slice A2 L.length c2) L) := by rw [← hw4.out]; exact OwnL.set' HO3.out (by intro g hg; have := HF3.out g hg; simp; omega) _
  go_wp2_with fail
  rw [hw4.out]
  obtain ⟨_, _, _, _, _, _⟩ := five_cells V0.out
  obtain ⟨_, _, _, _, _⟩ := four_cells V1.out
  obtain ⟨d0, d1, d2, d3, d4, df⟩ := five_cells V2.out
  obtain ⟨e0, e1, e2, e3, e4, ef⟩ := five_cells V3.out
  go_region
  go_wp2
  refine bodyPost_ret (v := .tuple #[.agg #[.string k, .bool o, .bool b, .slice A2 L.length c2, .int .i64 (Pu.upF n)], .agg #[.int .i64 0, .int .i64 L.length, .string ⟨#[]⟩, .int .i64 0, .int .i64 0]]) (by simp [results, Tryz.results86, go_sem, d0, d1, d2, d3, d4, e0, e1, e2, e3, e4]) rfl ?_
  rw [HN.out]
  refine ⟨_, rfl, ?_, ?_⟩
  · refine own_drew ?_
    iterate 10 refine OwnL.set' ?_ (by intro g hg; have := HF3.out g hg; simp <;> omega) _
    exact HO4.out.mono (by omega)
  · refine Below.drew ?_
    iterate 10 refine below_set ?_ (by simp <;> omega) _
    exact B4
set_option maxHeartbeats 2000000 in
theorem l3Keep_none1 (k m key t : ByteArray) (v : Int) (b : Bool) (s : Value) (l : List Pu.CellD) (n : Int) (base : Nat) (w : World) (R : Pu.CoreD × Pu.ReplyD) (hs : OwnL w base 63 2 cellEn s l) (hbs : base ≤ w.heap.size) (hlen : l.length ≤ 4) (hn0 : 0 ≤ n) (hG : (m.toList == [71, 101, 116]) = true) (HI : Hid (Pu.at3 key 0 l = -1)) (HN : Hid (R = (⟨k, true, b, l, n⟩, Pu.rp 4 0))) :
    Calls Tryz.prog 86 #[.agg #[.string k, .bool true, .bool b, s, .int .i64 n], .agg #[.string m, .string key, .int .i64 v, .string t], .bool true] w fun e w' => ∃ s', e = .returned (.tuple #[coreV R.1 s', replyV R.2]) ∧ OwnL w' base 63 2 cellEn s' R.1.cells ∧ Below w.heap.size w w' := by
  obtain ⟨A, c, rfl⟩ := hs.shape
  have HS := hide hs
  have hfar0 := fun g hg => (OwnL.lt hs (g := g) hg).2
  have HFAR := hide hfar0
  clear hs hfar0
  go_enter Tryz.func86, Tryz.ntmps86
  obtain ⟨w0, hw0⟩ : ∃ w0, Hid ((((w.alloc (.cells #[.string k, .bool true, .bool b, .slice A l.length c, .int .i64 n] 31 : Obj)).alloc (.cells #[.string m, .string key, .int .i64 v, .string t] 37 : Obj)).alloc (.cells #[.string ⟨#[]⟩, .bool false, .bool false, .slice none 0 0, .int .i64 0] 31 : Obj)).alloc (.cells #[.int .i64 0, .int .i64 0, .string ⟨#[]⟩, .int .i64 0, .int .i64 0] 33 : Obj) = w0) := ⟨_, rfl⟩
  have b0 : Below w.heap.size w w0 := by rw [← hw0.out]; exact below_alloc (below_alloc (below_alloc (below_alloc (Below.refl _ _) _) _) _) _
  have Y0 := hide (show w0.heap[w.heap.size]? = some (.cells #[.string k, .bool true, .bool b, .slice A l.length c, .int .i64 n] 31 : Obj) by rw [← hw0.out]; exact heap_old (by simp <;> omega) (heap_old (by simp <;> omega) (heap_old (by simp <;> omega) (heap_new (by simp)))))
  have Y1 := hide (show w0.heap[w.heap.size + 1]? = some (.cells #[.string m, .string key, .int .i64 v, .string t] 37 : Obj) by rw [← hw0.out]; exact heap_old (by simp <;> omega) (heap_old (by simp <;> omega) (heap_new (by simp))))
  have Y2 := hide (show w0.heap[w.heap.size + 1 + 1]? = some (.cells #[.string ⟨#[]⟩, .bool false, .bool false, .slice none 0 0, .int .i64 0] 31 : Obj) by rw [← hw0.out]; exact heap_old (by simp <;> omega) (heap_new (by simp)))
  have Y3 := hide (show w0.heap[w.heap.size + 1 + 1 + 1]? = some (.cells #[.int .i64 0, .int .i64 0, .string ⟨#[]⟩, .int .i64 0, .int .i64 0] 33 : Obj) by rw [← hw0.out]; exact heap_new (by simp))
  have hs0 : Hid (w0.heap.size = w.heap.size + 1 + 1 + 1 + 1) := by rw [← hw0.out, Hid]; simp
  go_wp2_with fail
  rw [hw0.out]
  refine (l3At_c _ l key _ (RdL.below (HS.out.rd (fun _ => rfl)) b0 (Nat.le_refl _))).mono ?_; rintro e w1 ⟨rfl, b1⟩
  have B1 := below_then b0 b1
  have X0 := hide (row_on b1 Y0.out)
  have X1 := hide (row_on b1 Y1.out)
  have X2 := hide (row_on b1 Y2.out)
  have X3 := hide (row_on b1 Y3.out)
  have HO1 := hide (OwnL.below HS.out B1 (Nat.le_refl _))
  have hw1 : w.heap.size + 1 + 1 + 1 < w1.heap.size := (Array.getElem?_eq_some_iff.1 X3.out).1
  clear b1
  rw [HI.out]
  obtain ⟨_, _, _, _, _, _⟩ := five_cells X0.out
  obtain ⟨_, _, _, _, _⟩ := four_cells X1.out
  obtain ⟨d0, d1, d2, d3, d4, df⟩ := five_cells X2.out
  obtain ⟨e0, e1, e2, e3, e4, ef⟩ := five_cells X3.out
  go_wp2
  refine bodyPost_ret (v := .tuple #[.agg #[.string k, .bool true, .bool b, .slice A l.length c, .int .i64 n], .agg #[.int .i64 4, .int .i64 0, .string ⟨#[]⟩, .int .i64 0, .int .i64 0]]) (by simp [results, Tryz.results86, go_sem, d0, d1, d2, d3, d4, e0, e1, e2, e3, e4]) rfl ?_
  rw [HN.out]
  refine ⟨_, rfl, ?_, ?_⟩
  · skip
    iterate 10 refine OwnL.set' ?_ (by intro g hg; have := HFAR.out g hg; simp <;> omega) _
    exact HO1.out
  · skip
    iterate 10 refine below_set ?_ (by simp <;> omega) _
    exact B1
set_option maxHeartbeats 2000000 in
theorem l3Keep_full1 (k m key t : ByteArray) (v : Int) (b : Bool) (s : Value) (l : List Pu.CellD) (n : Int) (base : Nat) (w : World) (R : Pu.CoreD × Pu.ReplyD) (hs : OwnL w base 63 2 cellEn s l) (hbs : base ≤ w.heap.size) (hlen : l.length ≤ 4) (hn0 : 0 ≤ n) (hG : (m.toList == [71, 101, 116]) = false) (h4i : (l.length : Int) = 4) (HI : Hid (Pu.at3 key 0 l = -1)) (HN : Hid (R = (⟨k, true, b, l, n⟩, Pu.rp 5 0))) :
    Calls Tryz.prog 86 #[.agg #[.string k, .bool true, .bool b, s, .int .i64 n], .agg #[.string m, .string key, .int .i64 v, .string t], .bool true] w fun e w' => ∃ s', e = .returned (.tuple #[coreV R.1 s', replyV R.2]) ∧ OwnL w' base 63 2 cellEn s' R.1.cells ∧ Below w.heap.size w w' := by
  obtain ⟨A, c, rfl⟩ := hs.shape
  have HS := hide hs
  have hfar0 := fun g hg => (OwnL.lt hs (g := g) hg).2
  have HFAR := hide hfar0
  clear hs hfar0
  go_enter Tryz.func86, Tryz.ntmps86
  obtain ⟨w0, hw0⟩ : ∃ w0, Hid ((((w.alloc (.cells #[.string k, .bool true, .bool b, .slice A l.length c, .int .i64 n] 31 : Obj)).alloc (.cells #[.string m, .string key, .int .i64 v, .string t] 37 : Obj)).alloc (.cells #[.string ⟨#[]⟩, .bool false, .bool false, .slice none 0 0, .int .i64 0] 31 : Obj)).alloc (.cells #[.int .i64 0, .int .i64 0, .string ⟨#[]⟩, .int .i64 0, .int .i64 0] 33 : Obj) = w0) := ⟨_, rfl⟩
  have b0 : Below w.heap.size w w0 := by rw [← hw0.out]; exact below_alloc (below_alloc (below_alloc (below_alloc (Below.refl _ _) _) _) _) _
  have Y0 := hide (show w0.heap[w.heap.size]? = some (.cells #[.string k, .bool true, .bool b, .slice A l.length c, .int .i64 n] 31 : Obj) by rw [← hw0.out]; exact heap_old (by simp <;> omega) (heap_old (by simp <;> omega) (heap_old (by simp <;> omega) (heap_new (by simp)))))
  have Y1 := hide (show w0.heap[w.heap.size + 1]? = some (.cells #[.string m, .string key, .int .i64 v, .string t] 37 : Obj) by rw [← hw0.out]; exact heap_old (by simp <;> omega) (heap_old (by simp <;> omega) (heap_new (by simp))))
  have Y2 := hide (show w0.heap[w.heap.size + 1 + 1]? = some (.cells #[.string ⟨#[]⟩, .bool false, .bool false, .slice none 0 0, .int .i64 0] 31 : Obj) by rw [← hw0.out]; exact heap_old (by simp <;> omega) (heap_new (by simp)))
  have Y3 := hide (show w0.heap[w.heap.size + 1 + 1 + 1]? = some (.cells #[.int .i64 0, .int .i64 0, .string ⟨#[]⟩, .int .i64 0, .int .i64 0] 33 : Obj) by rw [← hw0.out]; exact heap_new (by simp))
  have hs0 : Hid (w0.heap.size = w.heap.size + 1 + 1 + 1 + 1) := by rw [← hw0.out, Hid]; simp
  go_wp2_with fail
  rw [hw0.out]
  refine (l3At_c _ l key _ (RdL.below (HS.out.rd (fun _ => rfl)) b0 (Nat.le_refl _))).mono ?_; rintro e w1 ⟨rfl, b1⟩
  have B1 := below_then b0 b1
  have X0 := hide (row_on b1 Y0.out)
  have X1 := hide (row_on b1 Y1.out)
  have X2 := hide (row_on b1 Y2.out)
  have X3 := hide (row_on b1 Y3.out)
  have HO1 := hide (OwnL.below HS.out B1 (Nat.le_refl _))
  have hw1 : w.heap.size + 1 + 1 + 1 < w1.heap.size := (Array.getElem?_eq_some_iff.1 X3.out).1
  clear b1
  rw [HI.out]
  obtain ⟨_, _, _, _, _, _⟩ := five_cells X0.out
  obtain ⟨_, _, _, _, _⟩ := four_cells X1.out
  obtain ⟨d0, d1, d2, d3, d4, df⟩ := five_cells X2.out
  obtain ⟨e0, e1, e2, e3, e4, ef⟩ := five_cells X3.out
  go_wp2
  refine bodyPost_ret (v := .tuple #[.agg #[.string k, .bool true, .bool b, .slice A l.length c, .int .i64 n], .agg #[.int .i64 5, .int .i64 0, .string ⟨#[]⟩, .int .i64 0, .int .i64 0]]) (by simp [results, Tryz.results86, go_sem, d0, d1, d2, d3, d4, e0, e1, e2, e3, e4]) rfl ?_
  rw [HN.out]
  refine ⟨_, rfl, ?_, ?_⟩
  · skip
    iterate 10 refine OwnL.set' ?_ (by intro g hg; have := HFAR.out g hg; simp <;> omega) _
    exact HO1.out
  · skip
    iterate 10 refine below_set ?_ (by simp <;> omega) _
    exact B1
set_option maxHeartbeats 2000000 in
theorem l3Keep_got1 (k m key t : ByteArray) (v : Int) (b : Bool) (s : Value) (l : List Pu.CellD) (n : Int) (base : Nat) (w : World) (R : Pu.CoreD × Pu.ReplyD) (hs : OwnL w base 63 2 cellEn s l) (hbs : base ≤ w.heap.size) (hlen : l.length ≤ 4) (hn0 : 0 ≤ n) (hG : (m.toList == [71, 101, 116]) = true) (N : Nat) (hlt : N < l.length) (y : Pu.CellD) (HY : Hid (l[N]? = some y)) (HI : Hid (Pu.at3 key 0 l = (N : Int))) (HN : Hid (R = (⟨k, true, b, l, n⟩, Pu.rp 0 y.val))) :
    Calls Tryz.prog 86 #[.agg #[.string k, .bool true, .bool b, s, .int .i64 n], .agg #[.string m, .string key, .int .i64 v, .string t], .bool true] w fun e w' => ∃ s', e = .returned (.tuple #[coreV R.1 s', replyV R.2]) ∧ OwnL w' base 63 2 cellEn s' R.1.cells ∧ Below w.heap.size w w' := by
  obtain ⟨A, c, rfl⟩ := hs.shape
  have HS := hide hs
  have hfar0 := fun g hg => (OwnL.lt hs (g := g) hg).2
  have HFAR := hide hfar0
  clear hs hfar0
  go_enter Tryz.func86, Tryz.ntmps86
  obtain ⟨w0, hw0⟩ : ∃ w0, Hid ((((w.alloc (.cells #[.string k, .bool true, .bool b, .slice A l.length c, .int .i64 n] 31 : Obj)).alloc (.cells #[.string m, .string key, .int .i64 v, .string t] 37 : Obj)).alloc (.cells #[.string ⟨#[]⟩, .bool false, .bool false, .slice none 0 0, .int .i64 0] 31 : Obj)).alloc (.cells #[.int .i64 0, .int .i64 0, .string ⟨#[]⟩, .int .i64 0, .int .i64 0] 33 : Obj) = w0) := ⟨_, rfl⟩
  have b0 : Below w.heap.size w w0 := by rw [← hw0.out]; exact below_alloc (below_alloc (below_alloc (below_alloc (Below.refl _ _) _) _) _) _
  have Y0 := hide (show w0.heap[w.heap.size]? = some (.cells #[.string k, .bool true, .bool b, .slice A l.length c, .int .i64 n] 31 : Obj) by rw [← hw0.out]; exact heap_old (by simp <;> omega) (heap_old (by simp <;> omega) (heap_old (by simp <;> omega) (heap_new (by simp)))))
  have Y1 := hide (show w0.heap[w.heap.size + 1]? = some (.cells #[.string m, .string key, .int .i64 v, .string t] 37 : Obj) by rw [← hw0.out]; exact heap_old (by simp <;> omega) (heap_old (by simp <;> omega) (heap_new (by simp))))
  have Y2 := hide (show w0.heap[w.heap.size + 1 + 1]? = some (.cells #[.string ⟨#[]⟩, .bool false, .bool false, .slice none 0 0, .int .i64 0] 31 : Obj) by rw [← hw0.out]; exact heap_old (by simp <;> omega) (heap_new (by simp)))
  have Y3 := hide (show w0.heap[w.heap.size + 1 + 1 + 1]? = some (.cells #[.int .i64 0, .int .i64 0, .string ⟨#[]⟩, .int .i64 0, .int .i64 0] 33 : Obj) by rw [← hw0.out]; exact heap_new (by simp))
  have hs0 : Hid (w0.heap.size = w.heap.size + 1 + 1 + 1 + 1) := by rw [← hw0.out, Hid]; simp
  go_wp2_with fail
  rw [hw0.out]
  refine (l3At_c _ l key _ (RdL.below (HS.out.rd (fun _ => rfl)) b0 (Nat.le_refl _))).mono ?_; rintro e w1 ⟨rfl, b1⟩
  have B1 := below_then b0 b1
  have X0 := hide (row_on b1 Y0.out)
  have X1 := hide (row_on b1 Y1.out)
  have X2 := hide (row_on b1 Y2.out)
  have X3 := hide (row_on b1 Y3.out)
  have HO1 := hide (OwnL.below HS.out B1 (Nat.le_refl _))
  have hw1 : w.heap.size + 1 + 1 + 1 < w1.heap.size := (Array.getElem?_eq_some_iff.1 X3.out).1
  clear b1
  rw [HI.out]
  obtain ⟨_, _, _, _, _, _⟩ := five_cells X0.out
  obtain ⟨_, _, _, _, _⟩ := four_cells X1.out
  obtain ⟨d0, d1, d2, d3, d4, df⟩ := five_cells X2.out
  obtain ⟨e0, e1, e2, e3, e4, ef⟩ := five_cells X3.out
  obtain ⟨A9, c9, hA9, hlc, hcm, hA⟩ := RdL.open_ (OwnL.rd (size := 2) (en := cellEn) (fun _ => rfl) HO1.out)
  obtain ⟨rfl, rfl⟩ : A = A9 ∧ c = c9 := by injection hA9 with h1 h2 h3; exact ⟨h1, h3⟩
  clear hA9
  obtain ⟨g, oo, rfl, hgl, HC⟩ := RdAt.at_ hA (by omega)
  obtain ⟨y9, HY9, y0, y1⟩ := cell_get HC (Below.refl _ _) hlt
  obtain rfl : y9 = y := Option.some.inj (HY9.out.symm.trans HY.out)
  clear hA
  have hgw : g < w.heap.size := HFAR.out g rfl
  have hna2 : ¬ g = w.heap.size + 1 + 1 := by omega
  have hnb2 : ¬ w.heap.size + 1 + 1 = g := by omega
  have hna3 : ¬ g = w.heap.size + 1 + 1 + 1 := by omega
  have hnb3 : ¬ w.heap.size + 1 + 1 + 1 = g := by omega
  go_wp2_with fail
  go_region
  go_wp2
  refine bodyPost_ret (v := .tuple #[.agg #[.string k, .bool true, .bool b, .slice (some ⟨g, oo, none⟩) l.length c, .int .i64 n], .agg #[.int .i64 0, .int .i64 y9.val, .string ⟨#[]⟩, .int .i64 0, .int .i64 0]]) (by simp [results, Tryz.results86, go_sem, d0, d1, d2, d3, d4, e0, e1, e2, e3, e4]) rfl ?_
  rw [HN.out]
  refine ⟨_, rfl, ?_, ?_⟩
  · refine own_drew ?_
    iterate 10 refine OwnL.set' ?_ (by intro g hg; have := HFAR.out g hg; simp <;> omega) _
    exact HO1.out
  · refine Below.drew ?_
    iterate 10 refine below_set ?_ (by simp <;> omega) _
    exact B1
set_option maxHeartbeats 2000000 in
theorem l3Keep_put10 (k m key t : ByteArray) (v : Int) (b : Bool) (s : Value) (l : List Pu.CellD) (n : Int) (base : Nat) (w : World) (R : Pu.CoreD × Pu.ReplyD) (hs : OwnL w base 63 2 cellEn s l) (hbs : base ≤ w.heap.size) (hlen : l.length ≤ 4) (hn0 : 0 ≤ n) (hG : (m.toList == [71, 101, 116]) = false) (h4 : l.length < 4) (L : List Pu.CellD) (HPUT : Hid (Pu.put3 key v false l = L)) (HI : Hid (Pu.at3 key 0 l = -1)) (HN : Hid (R = (⟨k, true, b, L, Pu.upF n⟩, Pu.rp 0 L.length))) :
    Calls Tryz.prog 86 #[.agg #[.string k, .bool true, .bool b, s, .int .i64 n], .agg #[.string m, .string key, .int .i64 v, .string t], .bool true] w fun e w' => ∃ s', e = .returned (.tuple #[coreV R.1 s', replyV R.2]) ∧ OwnL w' base 63 2 cellEn s' R.1.cells ∧ Below w.heap.size w w' := by
  obtain ⟨A, c, rfl⟩ := hs.shape
  have HS := hide hs
  have hfar0 := fun g hg => (OwnL.lt hs (g := g) hg).2
  have HFAR := hide hfar0
  clear hs hfar0
  go_enter Tryz.func86, Tryz.ntmps86
  obtain ⟨w0, hw0⟩ : ∃ w0, Hid ((((w.alloc (.cells #[.string k, .bool true, .bool b, .slice A l.length c, .int .i64 n] 31 : Obj)).alloc (.cells #[.string m, .string key, .int .i64 v, .string t] 37 : Obj)).alloc (.cells #[.string ⟨#[]⟩, .bool false, .bool false, .slice none 0 0, .int .i64 0] 31 : Obj)).alloc (.cells #[.int .i64 0, .int .i64 0, .string ⟨#[]⟩, .int .i64 0, .int .i64 0] 33 : Obj) = w0) := ⟨_, rfl⟩
  have b0 : Below w.heap.size w w0 := by rw [← hw0.out]; exact below_alloc (below_alloc (below_alloc (below_alloc (Below.refl _ _) _) _) _) _
  have Y0 := hide (show w0.heap[w.heap.size]? = some (.cells #[.string k, .bool true, .bool b, .slice A l.length c, .int .i64 n] 31 : Obj) by rw [← hw0.out]; exact heap_old (by simp <;> omega) (heap_old (by simp <;> omega) (heap_old (by simp <;> omega) (heap_new (by simp)))))
  have Y1 := hide (show w0.heap[w.heap.size + 1]? = some (.cells #[.string m, .string key, .int .i64 v, .string t] 37 : Obj) by rw [← hw0.out]; exact heap_old (by simp <;> omega) (heap_old (by simp <;> omega) (heap_new (by simp))))
  have Y2 := hide (show w0.heap[w.heap.size + 1 + 1]? = some (.cells #[.string ⟨#[]⟩, .bool false, .bool false, .slice none 0 0, .int .i64 0] 31 : Obj) by rw [← hw0.out]; exact heap_old (by simp <;> omega) (heap_new (by simp)))
  have Y3 := hide (show w0.heap[w.heap.size + 1 + 1 + 1]? = some (.cells #[.int .i64 0, .int .i64 0, .string ⟨#[]⟩, .int .i64 0, .int .i64 0] 33 : Obj) by rw [← hw0.out]; exact heap_new (by simp))
  have hs0 : Hid (w0.heap.size = w.heap.size + 1 + 1 + 1 + 1) := by rw [← hw0.out, Hid]; simp
  go_wp2_with fail
  rw [hw0.out]
  refine (l3At_c _ l key _ (RdL.below (HS.out.rd (fun _ => rfl)) b0 (Nat.le_refl _))).mono ?_; rintro e w1 ⟨rfl, b1⟩
  have B1 := below_then b0 b1
  have X0 := hide (row_on b1 Y0.out)
  have X1 := hide (row_on b1 Y1.out)
  have X2 := hide (row_on b1 Y2.out)
  have X3 := hide (row_on b1 Y3.out)
  have HO1 := hide (OwnL.below HS.out B1 (Nat.le_refl _))
  have hw1 : w.heap.size + 1 + 1 + 1 < w1.heap.size := (Array.getElem?_eq_some_iff.1 X3.out).1
  clear b1
  rw [HI.out]
  obtain ⟨_, _, _, _, _, _⟩ := five_cells X0.out
  obtain ⟨_, _, _, _, _⟩ := four_cells X1.out
  obtain ⟨d0, d1, d2, d3, d4, df⟩ := five_cells X2.out
  obtain ⟨e0, e1, e2, e3, e4, ef⟩ := five_cells X3.out
  have h4i : ¬ (l.length : Int) = 4 := by omega
  go_wp2_with fail
  refine (l3Put_c _ l key v _ (HO1.out.rd (fun _ => rfl)) (by omega)).mono ?_; rintro e w2 ⟨v2, rfl, o2, b2⟩
  rw [HPUT.out] at o2
  obtain ⟨A2, c2, rfl⟩ := o2.shape
  have B2 := below_then B1 b2
  obtain ⟨w3, hw3⟩ : ∃ w3, Hid (w2.setCell ⟨w.heap.size, 3, none⟩ (.slice A2 L.length c2) = w3) := ⟨_, rfl⟩
  have B3 : Below w.heap.size w w3 := by rw [← hw3.out]; exact below_set B2 (Nat.le_refl _) _
  have Z0 := hide (show w3.heap[w.heap.size]? = some (.cells #[.string k, .bool true, .bool b, .slice A2 L.length c2, .int .i64 n] 31 : Obj) by rw [← hw3.out]; exact (row5_set (row_on b2 X0.out)).2.2.1)
  have Z1 := hide (show w3.heap[w.heap.size + 1]? = some (.cells #[.string m, .string key, .int .i64 v, .string t] 37 : Obj) by rw [← hw3.out]; exact row_past (row_on b2 X1.out) (by omega))
  have Z2 := hide (show w3.heap[w.heap.size + 1 + 1]? = some (.cells #[.string ⟨#[]⟩, .bool false, .bool false, .slice none 0 0, .int .i64 0] 31 : Obj) by rw [← hw3.out]; exact row_past (row_on b2 X2.out) (by omega))
  have Z3 := hide (show w3.heap[w.heap.size + 1 + 1 + 1]? = some (.cells #[.int .i64 0, .int .i64 0, .string ⟨#[]⟩, .int .i64 0, .int .i64 0] 33 : Obj) by rw [← hw3.out]; exact row_past (row_on b2 X3.out) (by omega))
  have O3 : OwnL w3 w1.heap.size 63 2 cellEn (.slice A2 L.length c2) L := by rw [← hw3.out]; exact OwnL.set' o2 (by intro g hg; have := (OwnL.lt o2 hg).1; simp; omega) _
  obtain ⟨_, _, _, _, _, _⟩ := five_cells (row_on b2 X0.out)
  have HF3 := hide (fun g hg => (OwnL.lt O3 (g := g) hg).1)
  have HO3 := hide O3
  clear O3 o2 b2
  obtain ⟨_, _, _, _, _, _⟩ := five_cells Z0.out
  obtain ⟨_, _, _, _, _⟩ := four_cells Z1.out
  obtain ⟨d0, d1, d2, d3, d4, df⟩ := five_cells Z2.out
  obtain ⟨e0, e1, e2, e3, e4, ef⟩ := five_cells Z3.out
  go_wp2_with fail
  rw [hw3.out]
  refine (l3Up_c n _ hn0).mono ?_; rintro e w3b ⟨rfl, rfl⟩
  obtain ⟨w4, hw4⟩ : ∃ w4, Hid (w3.setCell ⟨w.heap.size, 4, none⟩ (.int .i64 (Pu.upF n)) = w4) := ⟨_, rfl⟩
  have B4 : Below w.heap.size w w4 := by rw [← hw4.out]; exact below_set B3 (Nat.le_refl _) _
  have V0 := hide (show w4.heap[w.heap.size]? = some (.cells #[.string k, .bool true, .bool b, .slice A2 L.length c2, .int .i64 (Pu.upF n)] 31 : Obj) by rw [← hw4.out]; exact (row5_set Z0.out).2.2.2)
  have V1 := hide (show w4.heap[w.heap.size + 1]? = some (.cells #[.string m, .string key, .int .i64 v, .string t] 37 : Obj) by rw [← hw4.out]; exact row_past Z1.out (by omega))
  have V2 := hide (show w4.heap[w.heap.size + 1 + 1]? = some (.cells #[.string ⟨#[]⟩, .bool false, .bool false, .slice none 0 0, .int .i64 0] 31 : Obj) by rw [← hw4.out]; exact row_past Z2.out (by omega))
  have V3 := hide (show w4.heap[w.heap.size + 1 + 1 + 1]? = some (.cells #[.int .i64 0, .int .i64 0, .string ⟨#[]⟩, .int .i64 0, .int .i64 0] 33 : Obj) by rw [← hw4.out]; exact row_past Z3.out (by omega))
  have HO4 : Hid (OwnL w4 w1.heap.size 63 2 cellEn (.slice A2 L.length c2) L) := by rw [← hw4.out]; exact OwnL.set' HO3.out (by intro g hg; have := HF3.out g hg; simp; omega) _
  go_wp2_with fail
  rw [hw4.out]
  obtain ⟨_, _, _, _, _, _⟩ := five_cells V0.out
  obtain ⟨_, _, _, _, _⟩ := four_cells V1.out
  obtain ⟨d0, d1, d2, d3, d4, df⟩ := five_cells V2.out
  obtain ⟨e0, e1, e2, e3, e4, ef⟩ := five_cells V3.out
  go_region
  go_wp2
  refine bodyPost_ret (v := .tuple #[.agg #[.string k, .bool true, .bool b, .slice A2 L.length c2, .int .i64 (Pu.upF n)], .agg #[.int .i64 0, .int .i64 L.length, .string ⟨#[]⟩, .int .i64 0, .int .i64 0]]) (by simp [results, Tryz.results86, go_sem, d0, d1, d2, d3, d4, e0, e1, e2, e3, e4]) rfl ?_
  rw [HN.out]
  refine ⟨_, rfl, ?_, ?_⟩
  · refine own_drew ?_
    iterate 10 refine OwnL.set' ?_ (by intro g hg; have := HF3.out g hg; simp <;> omega) _
    exact HO4.out.mono (by omega)
  · refine Below.drew ?_
    iterate 10 refine below_set ?_ (by simp <;> omega) _
    exact B4
set_option maxHeartbeats 2000000 in
theorem l3Keep_put11 (k m key t : ByteArray) (v : Int) (b : Bool) (s : Value) (l : List Pu.CellD) (n : Int) (base : Nat) (w : World) (R : Pu.CoreD × Pu.ReplyD) (hs : OwnL w base 63 2 cellEn s l) (hbs : base ≤ w.heap.size) (hlen : l.length ≤ 4) (hn0 : 0 ≤ n) (hG : (m.toList == [71, 101, 116]) = false) (N : Nat) (L : List Pu.CellD) (HPUT : Hid (Pu.put3 key v false l = L)) (HI : Hid (Pu.at3 key 0 l = (N : Int))) (HN : Hid (R = (⟨k, true, b, L, Pu.upF n⟩, Pu.rp 0 L.length))) :
    Calls Tryz.prog 86 #[.agg #[.string k, .bool true, .bool b, s, .int .i64 n], .agg #[.string m, .string key, .int .i64 v, .string t], .bool true] w fun e w' => ∃ s', e = .returned (.tuple #[coreV R.1 s', replyV R.2]) ∧ OwnL w' base 63 2 cellEn s' R.1.cells ∧ Below w.heap.size w w' := by
  obtain ⟨A, c, rfl⟩ := hs.shape
  have HS := hide hs
  have hfar0 := fun g hg => (OwnL.lt hs (g := g) hg).2
  have HFAR := hide hfar0
  clear hs hfar0
  go_enter Tryz.func86, Tryz.ntmps86
  obtain ⟨w0, hw0⟩ : ∃ w0, Hid ((((w.alloc (.cells #[.string k, .bool true, .bool b, .slice A l.length c, .int .i64 n] 31 : Obj)).alloc (.cells #[.string m, .string key, .int .i64 v, .string t] 37 : Obj)).alloc (.cells #[.string ⟨#[]⟩, .bool false, .bool false, .slice none 0 0, .int .i64 0] 31 : Obj)).alloc (.cells #[.int .i64 0, .int .i64 0, .string ⟨#[]⟩, .int .i64 0, .int .i64 0] 33 : Obj) = w0) := ⟨_, rfl⟩
  have b0 : Below w.heap.size w w0 := by rw [← hw0.out]; exact below_alloc (below_alloc (below_alloc (below_alloc (Below.refl _ _) _) _) _) _
  have Y0 := hide (show w0.heap[w.heap.size]? = some (.cells #[.string k, .bool true, .bool b, .slice A l.length c, .int .i64 n] 31 : Obj) by rw [← hw0.out]; exact heap_old (by simp <;> omega) (heap_old (by simp <;> omega) (heap_old (by simp <;> omega) (heap_new (by simp)))))
  have Y1 := hide (show w0.heap[w.heap.size + 1]? = some (.cells #[.string m, .string key, .int .i64 v, .string t] 37 : Obj) by rw [← hw0.out]; exact heap_old (by simp <;> omega) (heap_old (by simp <;> omega) (heap_new (by simp))))
  have Y2 := hide (show w0.heap[w.heap.size + 1 + 1]? = some (.cells #[.string ⟨#[]⟩, .bool false, .bool false, .slice none 0 0, .int .i64 0] 31 : Obj) by rw [← hw0.out]; exact heap_old (by simp <;> omega) (heap_new (by simp)))
  have Y3 := hide (show w0.heap[w.heap.size + 1 + 1 + 1]? = some (.cells #[.int .i64 0, .int .i64 0, .string ⟨#[]⟩, .int .i64 0, .int .i64 0] 33 : Obj) by rw [← hw0.out]; exact heap_new (by simp))
  have hs0 : Hid (w0.heap.size = w.heap.size + 1 + 1 + 1 + 1) := by rw [← hw0.out, Hid]; simp
  go_wp2_with fail
  rw [hw0.out]
  refine (l3At_c _ l key _ (RdL.below (HS.out.rd (fun _ => rfl)) b0 (Nat.le_refl _))).mono ?_; rintro e w1 ⟨rfl, b1⟩
  have B1 := below_then b0 b1
  have X0 := hide (row_on b1 Y0.out)
  have X1 := hide (row_on b1 Y1.out)
  have X2 := hide (row_on b1 Y2.out)
  have X3 := hide (row_on b1 Y3.out)
  have HO1 := hide (OwnL.below HS.out B1 (Nat.le_refl _))
  have hw1 : w.heap.size + 1 + 1 + 1 < w1.heap.size := (Array.getElem?_eq_some_iff.1 X3.out).1
  clear b1
  rw [HI.out]
  obtain ⟨_, _, _, _, _, _⟩ := five_cells X0.out
  obtain ⟨_, _, _, _, _⟩ := four_cells X1.out
  obtain ⟨d0, d1, d2, d3, d4, df⟩ := five_cells X2.out
  obtain ⟨e0, e1, e2, e3, e4, ef⟩ := five_cells X3.out
  go_wp2_with fail
  refine (l3Put_c _ l key v _ (HO1.out.rd (fun _ => rfl)) (by omega)).mono ?_; rintro e w2 ⟨v2, rfl, o2, b2⟩
  rw [HPUT.out] at o2
  obtain ⟨A2, c2, rfl⟩ := o2.shape
  have B2 := below_then B1 b2
  obtain ⟨w3, hw3⟩ : ∃ w3, Hid (w2.setCell ⟨w.heap.size, 3, none⟩ (.slice A2 L.length c2) = w3) := ⟨_, rfl⟩
  have B3 : Below w.heap.size w w3 := by rw [← hw3.out]; exact below_set B2 (Nat.le_refl _) _
  have Z0 := hide (show w3.heap[w.heap.size]? = some (.cells #[.string k, .bool true, .bool b, .slice A2 L.length c2, .int .i64 n] 31 : Obj) by rw [← hw3.out]; exact (row5_set (row_on b2 X0.out)).2.2.1)
  have Z1 := hide (show w3.heap[w.heap.size + 1]? = some (.cells #[.string m, .string key, .int .i64 v, .string t] 37 : Obj) by rw [← hw3.out]; exact row_past (row_on b2 X1.out) (by omega))
  have Z2 := hide (show w3.heap[w.heap.size + 1 + 1]? = some (.cells #[.string ⟨#[]⟩, .bool false, .bool false, .slice none 0 0, .int .i64 0] 31 : Obj) by rw [← hw3.out]; exact row_past (row_on b2 X2.out) (by omega))
  have Z3 := hide (show w3.heap[w.heap.size + 1 + 1 + 1]? = some (.cells #[.int .i64 0, .int .i64 0, .string ⟨#[]⟩, .int .i64 0, .int .i64 0] 33 : Obj) by rw [← hw3.out]; exact row_past (row_on b2 X3.out) (by omega))
  have O3 : OwnL w3 w1.heap.size 63 2 cellEn (.slice A2 L.length c2) L := by rw [← hw3.out]; exact OwnL.set' o2 (by intro g hg; have := (OwnL.lt o2 hg).1; simp; omega) _
  obtain ⟨_, _, _, _, _, _⟩ := five_cells (row_on b2 X0.out)
  have HF3 := hide (fun g hg => (OwnL.lt O3 (g := g) hg).1)
  have HO3 := hide O3
  clear O3 o2 b2
  obtain ⟨_, _, _, _, _, _⟩ := five_cells Z0.out
  obtain ⟨_, _, _, _, _⟩ := four_cells Z1.out
  obtain ⟨d0, d1, d2, d3, d4, df⟩ := five_cells Z2.out
  obtain ⟨e0, e1, e2, e3, e4, ef⟩ := five_cells Z3.out
  go_wp2_with fail
  rw [hw3.out]
  refine (l3Up_c n _ hn0).mono ?_; rintro e w3b ⟨rfl, rfl⟩
  obtain ⟨w4, hw4⟩ : ∃ w4, Hid (w3.setCell ⟨w.heap.size, 4, none⟩ (.int .i64 (Pu.upF n)) = w4) := ⟨_, rfl⟩
  have B4 : Below w.heap.size w w4 := by rw [← hw4.out]; exact below_set B3 (Nat.le_refl _) _
  have V0 := hide (show w4.heap[w.heap.size]? = some (.cells #[.string k, .bool true, .bool b, .slice A2 L.length c2, .int .i64 (Pu.upF n)] 31 : Obj) by rw [← hw4.out]; exact (row5_set Z0.out).2.2.2)
  have V1 := hide (show w4.heap[w.heap.size + 1]? = some (.cells #[.string m, .string key, .int .i64 v, .string t] 37 : Obj) by rw [← hw4.out]; exact row_past Z1.out (by omega))
  have V2 := hide (show w4.heap[w.heap.size + 1 + 1]? = some (.cells #[.string ⟨#[]⟩, .bool false, .bool false, .slice none 0 0, .int .i64 0] 31 : Obj) by rw [← hw4.out]; exact row_past Z2.out (by omega))
  have V3 := hide (show w4.heap[w.heap.size + 1 + 1 + 1]? = some (.cells #[.int .i64 0, .int .i64 0, .string ⟨#[]⟩, .int .i64 0, .int .i64 0] 33 : Obj) by rw [← hw4.out]; exact row_past Z3.out (by omega))
  have HO4 : Hid (OwnL w4 w1.heap.size 63 2 cellEn (.slice A2 L.length c2) L) := by rw [← hw4.out]; exact OwnL.set' HO3.out (by intro g hg; have := HF3.out g hg; simp; omega) _
  go_wp2_with fail
  rw [hw4.out]
  obtain ⟨_, _, _, _, _, _⟩ := five_cells V0.out
  obtain ⟨_, _, _, _, _⟩ := four_cells V1.out
  obtain ⟨d0, d1, d2, d3, d4, df⟩ := five_cells V2.out
  obtain ⟨e0, e1, e2, e3, e4, ef⟩ := five_cells V3.out
  go_region
  go_wp2
  refine bodyPost_ret (v := .tuple #[.agg #[.string k, .bool true, .bool b, .slice A2 L.length c2, .int .i64 (Pu.upF n)], .agg #[.int .i64 0, .int .i64 L.length, .string ⟨#[]⟩, .int .i64 0, .int .i64 0]]) (by simp [results, Tryz.results86, go_sem, d0, d1, d2, d3, d4, e0, e1, e2, e3, e4]) rfl ?_
  rw [HN.out]
  refine ⟨_, rfl, ?_, ?_⟩
  · refine own_drew ?_
    iterate 10 refine OwnL.set' ?_ (by intro g hg; have := HF3.out g hg; simp <;> omega) _
    exact HO4.out.mono (by omega)
  · refine Below.drew ?_
    iterate 10 refine below_set ?_ (by simp <;> omega) _
    exact B4
theorem l3Keep_c (k m key t : ByteArray) (v : Int) (o b r : Bool) (s : Value) (l : List Pu.CellD) (n : Int) (base : Nat) (w : World) (hs : OwnL w base 63 2 cellEn s l) (hbs : base ≤ w.heap.size) (hc : Pu.cellsB l = true) (hn0 : 0 ≤ n) (hr : Pu.hasB (Pu.faceK ⟨k, o, b, l, n⟩) 0 = r) (G : Bool) (hG : (m.toList == [71, 101, 116]) = G) (R : Pu.CoreD × Pu.ReplyD) (HR : Hid (Pu.keepF G ⟨k, o, b, l, n⟩ ⟨m, key, v, t⟩ = R)) :
    Calls Tryz.prog 86 #[.agg #[.string k, .bool o, .bool b, s, .int .i64 n], .agg #[.string m, .string key, .int .i64 v, .string t], .bool r] w fun e w' => ∃ s', e = .returned (.tuple #[coreV R.1 s', replyV R.2]) ∧ OwnL w' base 63 2 cellEn s' R.1.cells ∧ Below w.heap.size w w' := by
  have hlen : l.length ≤ 4 := by simp only [Pu.cellsB, Bool.and_eq_true, decide_eq_true_eq] at hc; exact hc.1
  have hcf : Pu.cellsFrom none l = true := by simp only [Pu.cellsB, Bool.and_eq_true, decide_eq_true_eq] at hc; exact hc.2
  have HAT := hide (Pu.at3_low (k := key) 0 hcf)
  have HPUT := hide (Pu.put3_eq (k := key) (v := v) hcf)
  have way0 : r = false → Calls Tryz.prog 86 #[.agg #[.string k, .bool o, .bool b, s, .int .i64 n], .agg #[.string m, .string key, .int .i64 v, .string t], .bool r] w fun e w' => ∃ s', e = .returned (.tuple #[coreV R.1 s', replyV R.2]) ∧ OwnL w' base 63 2 cellEn s' R.1.cells ∧ Below w.heap.size w w' := by
    rintro rfl
    rcases hh : Pu.hit key l with _ | _
    · have HI : Hid (Pu.at3 key 0 l = -1) := by rw [Hid, HAT.out, hh]; rfl
      rcases G with _ | _
      · rcases Nat.lt_or_ge l.length 4 with h4 | h4
        · exact l3Keep_put00 k m key t v o b s l n base w R hs hbs hlen hn0 hG h4 (Pu.putC key v l) HPUT HI (by rw [Hid, ← HR.out]; simp [Pu.keepF, hr, hh, show ¬ 4 ≤ l.length by omega])
        · exact l3Keep_full0 k m key t v o b s l n base w R hs hbs hlen hn0 hG (by omega) HI (by rw [Hid, ← HR.out]; simp [Pu.keepF, hr, hh, h4])
      · exact l3Keep_none0 k m key t v o b s l n base w R hs hbs hlen hn0 hG HI (by rw [Hid, ← HR.out]; simp [Pu.keepF, hr, hh])
    · have HI : Hid (Pu.at3 key 0 l = (Pu.lowN key l : Int)) := by rw [Hid, HAT.out, hh]; simp
      have hlt : Pu.lowN key l < l.length := by
        rcases Nat.lt_or_ge (Pu.lowN key l) l.length with h | h
        · exact h
        · rw [Pu.lowN_end key l h] at hh; cases hh
      rcases G with _ | _
      · exact l3Keep_put01 k m key t v o b s l n base w R hs hbs hlen hn0 hG (Pu.lowN key l) (Pu.putC key v l) HPUT HI (by rw [Hid, ← HR.out]; simp [Pu.keepF, hr, hh])
      · obtain ⟨y, hy⟩ : ∃ y, l[Pu.lowN key l]? = some y := ⟨_, List.getElem?_eq_getElem hlt⟩
        exact l3Keep_got0 k m key t v o b s l n base w R hs hbs hlen hn0 hG (Pu.lowN key l) hlt y hy HI (by rw [Hid, ← HR.out]; simp [Pu.keepF, hr, hh, (Pu.lowN_at key l y hy).2.2])
  have way1 : r = true ∧ o = true → Calls Tryz.prog 86 #[.agg #[.string k, .bool o, .bool b, s, .int .i64 n], .agg #[.string m, .string key, .int .i64 v, .string t], .bool r] w fun e w' => ∃ s', e = .returned (.tuple #[coreV R.1 s', replyV R.2]) ∧ OwnL w' base 63 2 cellEn s' R.1.cells ∧ Below w.heap.size w w' := by
    rintro ⟨rfl, rfl⟩
    rcases hh : Pu.hit key l with _ | _
    · have HI : Hid (Pu.at3 key 0 l = -1) := by rw [Hid, HAT.out, hh]; rfl
      rcases G with _ | _
      · rcases Nat.lt_or_ge l.length 4 with h4 | h4
        · exact l3Keep_put10 k m key t v b s l n base w R hs hbs hlen hn0 hG h4 (Pu.putC key v l) HPUT HI (by rw [Hid, ← HR.out]; simp [Pu.keepF, hr, hh, show ¬ 4 ≤ l.length by omega])
        · exact l3Keep_full1 k m key t v b s l n base w R hs hbs hlen hn0 hG (by omega) HI (by rw [Hid, ← HR.out]; simp [Pu.keepF, hr, hh, h4])
      · exact l3Keep_none1 k m key t v b s l n base w R hs hbs hlen hn0 hG HI (by rw [Hid, ← HR.out]; simp [Pu.keepF, hr, hh])
    · have HI : Hid (Pu.at3 key 0 l = (Pu.lowN key l : Int)) := by rw [Hid, HAT.out, hh]; simp
      have hlt : Pu.lowN key l < l.length := by
        rcases Nat.lt_or_ge (Pu.lowN key l) l.length with h | h
        · exact h
        · rw [Pu.lowN_end key l h] at hh; cases hh
      rcases G with _ | _
      · exact l3Keep_put11 k m key t v b s l n base w R hs hbs hlen hn0 hG (Pu.lowN key l) (Pu.putC key v l) HPUT HI (by rw [Hid, ← HR.out]; simp [Pu.keepF, hr, hh])
      · obtain ⟨y, hy⟩ : ∃ y, l[Pu.lowN key l]? = some y := ⟨_, List.getElem?_eq_getElem hlt⟩
        exact l3Keep_got1 k m key t v b s l n base w R hs hbs hlen hn0 hG (Pu.lowN key l) hlt y hy HI (by rw [Hid, ← HR.out]; simp [Pu.keepF, hr, hh, (Pu.lowN_at key l y hy).2.2])
  rcases r with _ | _
  · exact way0 rfl
  · rcases o with _ | _
    · exact l3Keep_off k m key t v b G (Pu.at3 key 0 l) s l n base w R hs hbs hlen hn0 hG rfl (by rw [Hid, ← HR.out]; simp [Pu.keepF, hr])
    · exact way1 ⟨rfl, rfl⟩
end Go.Proofs.YtllmcnmongaahaaGreatDoor
