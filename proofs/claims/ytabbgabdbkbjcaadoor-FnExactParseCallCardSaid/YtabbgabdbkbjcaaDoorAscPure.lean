/- Ascending texts: what is inserted in order is what is sorted, each once. -/
import Derived.Test.YtabbgabdbkbjcaaDoorPure
import Derived.Sort.Walk0
import Derived.Lib.Strings
namespace Go.Proofs.YtabbgabdbkbjcaaDoor.Pu
def lt (x y : ByteArray) : Prop := x.data.toList < y.data.toList
def putL (s : ByteArray) : List ByteArray → List ByteArray
  | [] => [s]
  | x :: r => if Op.bytesLess x.toList s.toList then x :: putL s r else if x.toList == s.toList then x :: r else s :: x :: r
def asc (l : List ByteArray) : List ByteArray := l.foldl (fun o s => putL s o) []
def dd : Option ByteArray → List ByteArray → List ByteArray
  | _, [] => []
  | none, x :: r => x :: dd (some x) r
  | some p, x :: r => if p.toList == x.toList then dd (some x) r else x :: dd (some x) r
def ofL (x : List UInt8) : ByteArray := ⟨x.toArray⟩
def sortK (l : List ByteArray) : List (List UInt8) := (l.map (·.data.toList)).mergeSort fun x y => decide (x ≤ y)
def sortB (l : List ByteArray) : List ByteArray := (sortK l).map ofL
theorem eqL {x y : ByteArray} : (x.toList == y.toList) = true ↔ x = y := by
  rw [Lib.toList_data, Lib.toList_data, beq_iff_eq]
  constructor
  · intro h; exact ByteArray.ext (Array.toList_inj.1 h)
  · rintro rfl; rfl
theorem lessL {x y : ByteArray} : Op.bytesLess x.toList y.toList = true ↔ lt x y := by
  rw [Go.Proofs.bytesLess_eq, Lib.toList_data, Lib.toList_data, decide_eq_true_eq]; rfl
theorem lt_trans' {x y z : ByteArray} (h : lt x y) (k : lt y z) : lt x z := List.lt_trans h k
theorem lt_irr {x : ByteArray} : ¬ lt x x := List.lt_irrefl _
theorem lt_asy {x y : ByteArray} (h : lt x y) (k : lt y x) : False := List.lt_asymm h k
theorem lt_tri {x y : ByteArray} (h : ¬ lt x y) (k : ¬ lt y x) : x = y :=
  ByteArray.ext (Array.toList_inj.1 (List.le_antisymm (List.not_lt.1 k) (List.not_lt.1 h)))
theorem putL_mem {s z : ByteArray} : ∀ {l : List ByteArray}, z ∈ putL s l ↔ z = s ∨ z ∈ l
  | [] => by simp [putL]
  | x :: r => by
    rw [putL]
    split
    · rw [List.mem_cons, putL_mem, List.mem_cons]
      constructor
      · rintro (h | h | h) <;> simp [h]
      · rintro (h | h | h) <;> simp [h]
    · split
      · have h : x = s := eqL.1 (by assumption)
        subst h; simp
      · simp
theorem putL_sorted {s : ByteArray} : ∀ {l : List ByteArray}, l.Pairwise lt → (putL s l).Pairwise lt
  | [], _ => by simp [putL]
  | x :: r, h => by
    rw [List.pairwise_cons] at h
    rw [putL]
    split
    · rename_i hx
      rw [List.pairwise_cons]
      refine ⟨fun z hz => ?_, putL_sorted h.2⟩
      rcases putL_mem.1 hz with rfl | hz
      · exact lessL.1 hx
      · exact h.1 z hz
    · split
      · exact List.pairwise_cons.2 h
      · rename_i hx hn
        have hs : lt s x := by
          apply Classical.byContradiction
          intro hc
          exact hn (eqL.2 (lt_tri (fun h => hx (lessL.2 h)) hc))
        rw [List.pairwise_cons]
        refine ⟨fun z hz => ?_, List.pairwise_cons.2 h⟩
        rcases List.mem_cons.1 hz with rfl | hz
        · exact hs
        · exact lt_trans' hs (h.1 z hz)
theorem putL_len (s : ByteArray) : ∀ l : List ByteArray, (putL s l).length ≤ l.length + 1
  | [] => by simp [putL]
  | x :: r => by
    rw [putL]
    have := putL_len s r
    split
    · simp; omega
    · split <;> simp
theorem ascFrom (l : List ByteArray) : ∀ o : List ByteArray, o.Pairwise lt →
    (l.foldl (fun o s => putL s o) o).Pairwise lt ∧ (∀ z, z ∈ l.foldl (fun o s => putL s o) o ↔ z ∈ o ∨ z ∈ l) ∧ (l.foldl (fun o s => putL s o) o).length ≤ o.length + l.length := by
  induction l with
  | nil => intro o ho; simp [ho]
  | cons x r ih =>
    intro o ho
    obtain ⟨h1, h2, h3⟩ := ih (putL x o) (putL_sorted ho)
    refine ⟨h1, fun z => ?_, ?_⟩
    · rw [List.foldl_cons, h2, putL_mem, List.mem_cons]
      constructor
      · rintro ((h | h) | h) <;> simp [h]
      · rintro (h | h | h) <;> simp [h]
    · rw [List.foldl_cons]
      have := putL_len x o
      simp only [List.length_cons]; omega
theorem asc_sorted (l : List ByteArray) : (asc l).Pairwise lt := (ascFrom l [] .nil).1
theorem asc_mem (l : List ByteArray) (z : ByteArray) : z ∈ asc l ↔ z ∈ l := by rw [asc, (ascFrom l [] .nil).2.1]; simp
theorem asc_len (l : List ByteArray) : (asc l).length ≤ l.length := by have := (ascFrom l [] .nil).2.2; simpa [asc] using this
theorem asc_snoc (l : List ByteArray) (x : ByteArray) : asc (l ++ [x]) = putL x (asc l) := by simp [asc]
theorem uniq : ∀ {a b : List ByteArray}, a.Pairwise lt → b.Pairwise lt → (∀ x, x ∈ a ↔ x ∈ b) → a = b
  | [], [], _, _, _ => rfl
  | [], y :: s, _, _, h => by have := (h y).2 (by simp); simp at this
  | x :: r, [], _, _, h => by have := (h x).1 (by simp); simp at this
  | x :: r, y :: s, h1, h2, h => by
    rw [List.pairwise_cons] at h1 h2
    have hxy : x = y := by
      rcases List.mem_cons.1 ((h x).1 (by simp)) with e | hx
      · exact e
      · rcases List.mem_cons.1 ((h y).2 (by simp)) with e | hy
        · exact e.symm
        · exact (lt_asy (h1.1 y hy) (h2.1 x hx)).elim
    subst hxy
    rw [uniq h1.2 h2.2 fun z => ?_]
    constructor
    · intro hz
      rcases List.mem_cons.1 ((h z).1 (List.mem_cons_of_mem _ hz)) with rfl | hz'
      · exact (lt_irr (h1.1 _ hz)).elim
      · exact hz'
    · intro hz
      rcases List.mem_cons.1 ((h z).2 (List.mem_cons_of_mem _ hz)) with rfl | hz'
      · exact (lt_irr (h2.1 _ hz)).elim
      · exact hz'
theorem dd_some : ∀ (l : List ByteArray) (p : ByteArray), (p :: l).Pairwise (fun a b => ¬ lt b a) →
    (dd (some p) l).Pairwise lt ∧ ∀ z, z ∈ dd (some p) l ↔ z ∈ l ∧ z ≠ p
  | [], p, _ => by simp [dd]
  | x :: r, p, h => by
    rw [List.pairwise_cons] at h
    obtain ⟨i1, i2⟩ := dd_some r x h.2
    have hp := h.1
    have hx := (List.pairwise_cons.1 h.2).1
    rw [dd]
    split
    · have e : p = x := eqL.1 (by assumption)
      subst e
      refine ⟨i1, fun z => ?_⟩
      rw [i2, List.mem_cons]
      constructor
      · rintro ⟨a, b⟩; exact ⟨.inr a, b⟩
      · rintro ⟨a | a, b⟩
        · exact (b a).elim
        · exact ⟨a, b⟩
    · rename_i hn
      have hne : ¬ p = x := fun e => hn (eqL.2 e)
      have hpx : lt p x := by
        apply Classical.byContradiction
        intro hc
        exact hne (lt_tri hc (hp x (by simp)))
      refine ⟨List.pairwise_cons.2 ⟨fun z hz => ?_, i1⟩, fun z => ?_⟩
      · obtain ⟨a, b⟩ := (i2 z).1 hz
        apply Classical.byContradiction
        intro hc
        exact b (lt_tri (hx z a) hc)
      · rw [List.mem_cons, i2, List.mem_cons]
        constructor
        · rintro (rfl | ⟨a, b⟩)
          · exact ⟨.inl rfl, fun e => hne e.symm⟩
          · refine ⟨.inr a, ?_⟩
            rintro rfl
            exact hx z a hpx
        · rintro ⟨a | a, b⟩
          · exact .inl a
          · by_cases e : z = x
            · exact .inl e
            · exact .inr ⟨a, e⟩
theorem dd_none (l : List ByteArray) (h : l.Pairwise (fun a b => ¬ lt b a)) : (dd none l).Pairwise lt ∧ ∀ z, z ∈ dd none l ↔ z ∈ l := by
  cases l with
  | nil => simp [dd]
  | cons x r =>
    obtain ⟨i1, i2⟩ := dd_some r x h
    have hx := (List.pairwise_cons.1 h).1
    rw [dd]
    refine ⟨List.pairwise_cons.2 ⟨fun z hz => ?_, i1⟩, fun z => ?_⟩
    · obtain ⟨a, b⟩ := (i2 z).1 hz
      apply Classical.byContradiction
      intro hc
      exact b (lt_tri (hx z a) hc)
    · rw [List.mem_cons, i2, List.mem_cons]
      constructor
      · rintro (a | ⟨a, _⟩) <;> simp [a]
      · rintro (a | a)
        · exact .inl a
        · by_cases e : z = x
          · exact .inl e
          · exact .inr ⟨a, e⟩
theorem sortK_len (l : List ByteArray) : (sortK l).length = l.length := by simp [sortK]
theorem sortB_len (l : List ByteArray) : (sortB l).length = l.length := by simp [sortB, sortK_len]
theorem sortB_sorted (l : List ByteArray) : (sortB l).Pairwise (fun a b => ¬ lt b a) := by
  have h := List.pairwise_mergeSort (le := fun x y : List UInt8 => decide (x ≤ y)) (fun a b c h1 h2 => by simp only [decide_eq_true_eq] at *; exact List.le_trans h1 h2) (fun a b => by simp only [Bool.or_eq_true, decide_eq_true_eq]; exact List.le_total a b) (l.map (·.data.toList))
  rw [sortB, List.pairwise_map]
  exact h.imp (fun {a b} h => by rw [decide_eq_true_eq] at h; exact fun hc => (List.not_lt.2 h) hc)
theorem sortB_mem (l : List ByteArray) (z : ByteArray) : z ∈ sortB l ↔ z ∈ l := by
  have hp := List.mergeSort_perm (l.map (·.data.toList)) fun x y => decide (x ≤ y)
  rw [sortB, List.mem_map]
  constructor
  · rintro ⟨a, ha, rfl⟩
    obtain ⟨b, hb, rfl⟩ := List.mem_map.1 (hp.mem_iff.1 ha)
    exact hb
  · intro hz
    exact ⟨z.data.toList, hp.mem_iff.2 (List.mem_map.2 ⟨z, hz, rfl⟩), rfl⟩
theorem dd_sort (l : List ByteArray) : dd none (sortB l) = asc l := by
  obtain ⟨h1, h2⟩ := dd_none (sortB l) (sortB_sorted l)
  exact uniq h1 (asc_sorted l) fun z => by rw [h2, sortB_mem, asc_mem]
end Go.Proofs.YtabbgabdbkbjcaaDoor.Pu
