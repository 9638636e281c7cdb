/- Cells read from a text, in plain Lean. -/
import Derived.Test.YtabbgabdbkbjcaaDoorSplitPure
import Derived.Test.YtabbgabdbkbjcaaDoorNumPure
import Derived.Lib.CutLaws
namespace Go.Proofs.YtabbgabdbkbjcaaDoor.Pu
def eqB : ByteArray := ⟨#[61]⟩
def commaB : ByteArray := ⟨#[44]⟩
def cutK (p : ByteArray) : ByteArray := ⟨(Lib.cut p.data.toList [61]).1.toArray⟩
def cutV (p : ByteArray) : ByteArray := ⟨(Lib.cut p.data.toList [61]).2.1.toArray⟩
def cutO (p : ByteArray) : Bool := (Lib.cut p.data.toList [61]).2.2
def okC (p : ByteArray) : Bool := cutO p && pnB (cutV p).toList
def mkC (p : ByteArray) : CellD := ⟨cutK p, pnV (cutV p).toList⟩
def pcOk (s : ByteArray) : Bool := if s.toList == [45] then true else (splitA commaB s).all okC && cellsB ((splitA commaB s).map mkC)
def pcL (s : ByteArray) : List CellD := if s.toList == [45] then [] else if pcOk s then (splitA commaB s).map mkC else []
theorem cut_hit {p : ByteArray} {i : Nat} (h : Lib.indexB p eqB = i) : cutK p = p.extract 0 i ∧ cutV p = p.extract (i + 1) p.size ∧ cutO p = true := Lib.cutB_hit p eqB i h
theorem cut_miss {p : ByteArray} (h : Lib.indexB p eqB = -1) : cutK p = p ∧ cutV p = ByteArray.empty ∧ cutO p = false := Lib.cutB_miss p eqB h
theorem none_index {l : List UInt8} {c : UInt8} (h : ∀ b ∈ l, b ≠ c) : Lib.index l [c] = -1 := by
  rcases Lib.index_spec l [c] with ⟨h1, _⟩ | ⟨i, _, h2, h3, _⟩
  · exact h1
  · exfalso
    unfold Lib.occAt at h3
    rcases hd : l.drop i with _ | ⟨b, r⟩
    · rw [hd] at h3; simp at h3
    · rw [hd] at h3
      have hb : b ∈ l := by
        have : b ∈ l.drop i := by rw [hd]; simp
        exact List.mem_of_mem_drop this
      simp [List.isPrefixOf] at h3
      exact h b hb h3.symm
theorem numK_noeq : ∀ n : Nat, n < 1000 → (numK n).all (fun b => b != 61 && b != 32 && b != 44) = true := by decide +kernel
theorem num_no {t : List UInt8} (h : pnB t = true) : ∀ b ∈ t, b ≠ 61 ∧ b ≠ 32 ∧ b ≠ 44 := by
  unfold pnB at h
  rcases hf : numOf t with _ | n
  · rw [hf] at h; cases h
  · obtain ⟨h1, h2⟩ := numOf_some hf
    intro b hb
    have := List.all_eq_true.1 (numK_noeq n h1) b (by rw [h2]; exact hb)
    simp only [Bool.and_eq_true, bne_iff_ne] at this
    exact ⟨this.1.1, this.1.2, this.2⟩
theorem split_ok {x : ByteArray} (h : okC x = true) : splitA eqB x = [cutK x, cutV x] := by
  simp only [okC, Bool.and_eq_true] at h
  rcases Lib.indexB_cases x eqB with hi | ⟨i, hi, hr⟩
  · rw [(cut_miss hi).2.2] at h; cases h.1
  · obtain ⟨h1, h2, _⟩ := cut_hit hi
    have e1 : eqB.size = 1 := rfl
    rw [splitA_hit (by decide) hi, e1, ← h1, ← h2]
    have hm : Lib.indexB (cutV x) eqB = -1 := by
      have h3 := num_no h.2
      rw [Lib.toList_data] at h3
      exact none_index fun b hb => (h3 b hb).1
    rw [splitA_miss (by decide) hm]
theorem split_two {x : ByteArray} (h : (splitA eqB x).length = 2) : splitA eqB x = [cutK x, cutV x] ∧ cutO x = true := by
  rcases Lib.indexB_cases x eqB with hi | ⟨i, hi, hr⟩
  · rw [splitA_miss (by decide) hi] at h; cases h
  · obtain ⟨h1, h2, h3⟩ := cut_hit hi
    have e1 : eqB.size = 1 := rfl
    rw [splitA_hit (by decide) hi, e1, ← h1, ← h2] at h ⊢
    refine ⟨?_, h3⟩
    rcases Lib.indexB_cases (cutV x) eqB with hj | ⟨j, hj, _⟩
    · rw [splitA_miss (by decide) hj]
    · rw [splitA_hit (by decide) hj] at h
      obtain ⟨y, r, e⟩ := splitA_cons eqB ((cutV x).extract (j + eqB.size) (cutV x).size)
      rw [e] at h
      simp at h
theorem not_two {x : ByteArray} (h : (splitA eqB x).length ≠ 2) : okC x = false := by
  rw [Bool.eq_false_iff]
  intro hc
  exact h (by rw [split_ok hc]; rfl)
theorem cutK_size (p : ByteArray) : (cutK p).size ≤ p.size := by
  have e : (cutK p).size = (Lib.cut p.data.toList [61]).1.length := rfl
  rw [e, Lib.cut]
  split
  · simp only [List.length_take]
    have : p.data.toList.length = p.size := rfl
    omega
  · exact Nat.le_refl _
theorem cutV_size (p : ByteArray) : (cutV p).size ≤ p.size := by
  have e : (cutV p).size = (Lib.cut p.data.toList [61]).2.1.length := rfl
  rw [e, Lib.cut]
  split
  · simp only [List.length_drop]
    have : p.data.toList.length = p.size := rfl
    omega
  · simp
theorem pc_dash {s : ByteArray} (h : (s.toList == [45]) = true) : pcOk s = true ∧ pcL s = [] := by
  simp [pcOk, pcL, h]
theorem pc_bad {s x : ByteArray} (h : (s.toList == [45]) = false) {k : Nat} (hx : (splitA commaB s)[k]? = some x) (hb : okC x = false) : pcOk s = false ∧ pcL s = [] := by
  have h1 : (splitA commaB s).all okC = false := by
    rw [Bool.eq_false_iff]
    intro hc
    have := List.all_eq_true.1 hc x (List.mem_of_getElem? hx)
    rw [hb] at this; cases this
  simp [pcOk, pcL, h, h1]
theorem pc_long {s : ByteArray} (h : (s.toList == [45]) = false) (hl : 4 < (splitA commaB s).length) : pcOk s = false ∧ pcL s = [] := by
  have h1 : cellsB ((splitA commaB s).map mkC) = false := by
    simp [cellsB]; omega
  simp [pcOk, pcL, h, h1]
theorem pc_cells {s : ByteArray} (h : (s.toList == [45]) = false) (ha : (splitA commaB s).all okC = true) : pcOk s = cellsB ((splitA commaB s).map mkC) ∧ pcL s = if cellsB ((splitA commaB s).map mkC) then (splitA commaB s).map mkC else [] := by
  simp [pcOk, pcL, h, ha]
theorem all_take {l : List ByteArray} {p : ByteArray → Bool} {k : Nat} {x : ByteArray} (h : (l.take k).all p = true) (hx : l[k]? = some x) (hp : p x = true) : (l.take (k + 1)).all p = true := by
  rw [List.take_add_one, hx, List.all_append, h]
  simp [hp]
theorem pcL_len (s : ByteArray) (h : s.size ≤ 1048576) : (pcL s).length ≤ 1048577 := by
  unfold pcL
  split
  · simp
  · split
    · rw [List.length_map]
      have := splitA_le commaB s
      omega
    · simp
end Go.Proofs.YtabbgabdbkbjcaaDoor.Pu
