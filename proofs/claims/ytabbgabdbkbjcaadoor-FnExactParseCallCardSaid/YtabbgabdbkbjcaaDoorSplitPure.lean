/- Texts divided at a separator, in plain Lean. -/
import Derived.Test.YtabbgabdbkbjcaaDoorPure
import Derived.Lib.SplitLaws
import Derived.Lib.IndexLaws
import Derived.Lib.IndexMore
namespace Go.Proofs.YtabbgabdbkbjcaaDoor.Pu
/-- the pieces of s between the separators -/
def splitA (sep s : ByteArray) : List ByteArray := if sep.size = 0 then [s] else Lib.splitB sep 0 (Lib.countB s sep) s
theorem splitA_miss {sep s : ByteArray} (h1 : 1 ≤ sep.size) (h : Lib.indexB s sep = -1) : splitA sep s = [s] := by
  rw [splitA, if_neg (by omega), Lib.splitB_miss _ _ _ _ h]
theorem splitA_hit {sep s : ByteArray} (h1 : 1 ≤ sep.size) {i : Nat} (h : Lib.indexB s sep = i) : splitA sep s = s.extract 0 i :: splitA sep (s.extract (i + sep.size) s.size) := by
  rw [splitA, if_neg (by omega), Lib.countB_hit s sep i h1 h, Nat.add_comm, Lib.splitB_hit _ _ _ _ _ h, Nat.add_zero, splitA, if_neg (by omega)]
theorem splitA_nul {sep s : ByteArray} (h : sep.size = 0) : splitA sep s = [s] := by rw [splitA, if_pos h]
theorem splitA_len {sep s : ByteArray} (h1 : 1 ≤ sep.size) : (splitA sep s).length = Lib.countB s sep + 1 := by
  rw [splitA, if_neg (by omega)]
  exact Lib.splitB_all sep h1 0 _ s rfl
theorem splitA_le (sep s : ByteArray) : (splitA sep s).length ≤ s.size + 1 := by
  by_cases h : sep.size = 0
  · rw [splitA_nul h]; simp
  · rw [splitA_len (by omega)]
    have := Lib.countB_le sep (by omega) s.size s (Nat.le_refl _)
    omega
theorem splitA_tot (sep : ByteArray) : ∀ (n : Nat) (s : ByteArray), s.size ≤ n → tot (splitA sep s) ≤ s.size
  | n, s, hn => by
    by_cases h : sep.size = 0
    · rw [splitA_nul h]; simp [tot]
    rcases Lib.indexB_cases s sep with hi | ⟨i, hi, hr⟩
    · rw [splitA_miss (by omega) hi]; simp [tot]
    · rw [splitA_hit (by omega) hi, tot]
      have hz : (s.extract (i + sep.size) s.size).size = s.size - (i + sep.size) := by rw [ByteArray.size_extract]; omega
      have hy : (s.extract 0 i).size = i := by rw [ByteArray.size_extract]; omega
      match n, hn with
      | 0, hn => omega
      | n + 1, hn =>
        have := splitA_tot sep n (s.extract (i + sep.size) s.size) (by omega)
        omega
theorem splitA_cons (sep s : ByteArray) : ∃ x r, splitA sep s = x :: r := by
  by_cases h : sep.size = 0
  · exact ⟨_, _, splitA_nul h⟩
  rcases Lib.indexB_cases s sep with hi | ⟨i, hi, hr⟩
  · exact ⟨_, _, splitA_miss (by omega) hi⟩
  · exact ⟨_, _, splitA_hit (by omega) hi⟩
theorem splitA_size {sep s x : ByteArray} (h : x ∈ splitA sep s) : x.size ≤ s.size := Nat.le_trans (tot_mem h) (splitA_tot sep _ s (Nat.le_refl _))
/-! ## One step of a walk from the left -/
/-- no separator begins in s from a on, before b -/
def NoSep (sep s : ByteArray) (a b : Nat) : Prop := Lib.NoOcc (s.data.toList.drop a) sep.data.toList (b - a)
theorem noSep_start (sep s : ByteArray) (a : Nat) : NoSep sep s a a := by
  unfold NoSep; rw [Nat.sub_self]; exact Lib.NoOcc.zero _ _
theorem at_iff {sep s : ByteArray} {b : Nat} : ((s.extract b (b + sep.size)).toList == sep.toList) = true ↔ Lib.occAt s.data.toList sep.data.toList b = true := by
  rw [Lib.toList_data, Lib.toList_data, Lib.extract_data, Nat.add_sub_cancel_left, beq_iff_eq, Lib.occAt, List.isPrefixOf_iff_prefix, List.prefix_iff_eq_take, ← Lib.size_eq]
  exact eq_comm
theorem noSep_step {sep s : ByteArray} {a b : Nat} (hab : a ≤ b) (h : NoSep sep s a b) (hq : ((s.extract b (b + sep.size)).toList == sep.toList) = false) : NoSep sep s a (b + 1) := by
  unfold NoSep at *
  rw [show b + 1 - a = b - a + 1 by omega]
  refine Lib.NoOcc.succ h ?_
  rw [Bool.eq_false_iff]
  intro hc
  have : Lib.occAt s.data.toList sep.data.toList b = true := by
    unfold Lib.occAt at *
    rw [List.drop_drop] at hc
    rwa [show a + (b - a) = b by omega] at hc
  rw [at_iff.2 this] at hq
  cases hq
theorem drop_ext (s : ByteArray) (a : Nat) : (s.extract a s.size).data.toList = s.data.toList.drop a := Lib.extract_to_end s a
theorem ext_ext (s : ByteArray) {a b : Nat} : (s.extract a s.size).extract 0 (b - a) = s.extract a b := by
  apply ByteArray.ext
  apply Array.toList_inj.1
  rw [Lib.extract_data, drop_ext, Lib.extract_data]
  simp
theorem ext_rest (s : ByteArray) {a c : Nat} (hac : a ≤ c) : (s.extract a s.size).extract (c - a) (s.extract a s.size).size = s.extract c s.size := by
  apply ByteArray.ext
  apply Array.toList_inj.1
  rw [drop_ext, drop_ext, drop_ext, List.drop_drop]
  congr 1
  omega
theorem split_found {sep s : ByteArray} (h1 : 1 ≤ sep.size) {a b : Nat} (hab : a ≤ b) (hb : b + sep.size ≤ s.size) (h : NoSep sep s a b) (hq : ((s.extract b (b + sep.size)).toList == sep.toList) = true) :
    splitA sep (s.extract a s.size) = s.extract a b :: splitA sep (s.extract (b + sep.size) s.size) := by
  have hi : Lib.indexB (s.extract a s.size) sep = ((b - a : Nat) : Int) := by
    show Lib.index _ _ = _
    rw [drop_ext]
    refine Lib.index_hit h ?_ ?_
    · rw [List.length_drop, ← Lib.size_eq]; omega
    · have := at_iff.1 hq
      unfold Lib.occAt at *
      rw [List.drop_drop]
      rwa [show a + (b - a) = b by omega]
  rw [splitA_hit h1 hi, ext_ext s, show b - a + sep.size = b + sep.size - a by omega, ext_rest s (by omega)]
theorem split_past {sep s : ByteArray} (h1 : 1 ≤ sep.size) {a b : Nat} (hab : a ≤ b) (ha : a ≤ s.size) (hb : s.size < b + sep.size) (h : NoSep sep s a b) : splitA sep (s.extract a s.size) = [s.extract a s.size] := by
  refine splitA_miss h1 ?_
  show Lib.index _ _ = _
  rw [drop_ext]
  refine Lib.index_past ?_ h ?_
  · intro hc
    rw [Lib.size_eq, hc] at h1
    simp at h1
  · rw [List.length_drop, ← Lib.size_eq, ← Lib.size_eq]; omega
theorem ext_all (s : ByteArray) : s.extract 0 s.size = s := by
  apply ByteArray.ext
  apply Array.toList_inj.1
  rw [drop_ext]; rfl
end Go.Proofs.YtabbgabdbkbjcaaDoor.Pu
