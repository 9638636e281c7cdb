/- Texts divided and joined again; ascending texts, in plain Lean. -/
import Derived.Test.YtabbgabdbkbjcaaDoorSplitPure
import Derived.Test.YtabbgabdbkbjcaaDoorJoin
import Derived.Test.YtabbgabdbkbjcaaDoorAscPure
namespace Go.Proofs.YtabbgabdbkbjcaaDoor.Pu
theorem joinB_data (sep : ByteArray) (l : List ByteArray) : (joinB sep l).data.toList = Lib.join (l.map (·.data.toList)) sep.data.toList := by
  rw [← joinB_lib]
theorem join_two (x y : List UInt8) (r : List (List UInt8)) (sep : List UInt8) : Lib.join (x :: y :: r) sep = x ++ sep ++ Lib.join (y :: r) sep := by
  rw [Lib.join_cons, Lib.join_cons]
  simp [Lib.joinTail]
theorem ext_same {a b : ByteArray} (h : a.data.toList = b.data.toList) : a = b := by
  apply ByteArray.ext
  apply Array.toList_inj.1
  exact h
theorem join_split (sep : ByteArray) : ∀ (n : Nat) (s : ByteArray), s.size ≤ n → joinB sep (splitA sep s) = s
  | n, s, hn => by
    by_cases h : sep.size = 0
    · rw [splitA_nul h]
      exact ext_same (by rw [joinB_data]; exact Lib.join_one _ _)
    rcases Lib.indexB_cases s sep with hi | ⟨i, hi, hr⟩
    · rw [splitA_miss (by omega) hi]
      exact ext_same (by rw [joinB_data]; exact Lib.join_one _ _)
    · rw [splitA_hit (by omega) hi]
      have hz : (s.extract (i + sep.size) s.size).size = s.size - (i + sep.size) := by rw [ByteArray.size_extract]; omega
      match n, hn with
      | 0, hn => omega
      | n + 1, hn =>
        have ih := join_split sep n (s.extract (i + sep.size) s.size) (by omega)
        obtain ⟨y, r, e⟩ := splitA_cons sep (s.extract (i + sep.size) s.size)
        refine ext_same ?_
        have ih2 := congrArg (·.data.toList) ih
        rw [joinB_data, e, List.map_cons] at ih2
        rw [joinB_data, e, List.map_cons, List.map_cons, join_two, ih2, drop_ext, Lib.extract_from_zero]
        rcases Lib.index_spec s.data.toList sep.data.toList with ⟨h1, _⟩ | ⟨j, h1, _, h3, _⟩
        · have h1' : Lib.indexB s sep = -1 := h1
          omega
        · have h1' : Lib.indexB s sep = j := h1
          obtain rfl : j = i := by omega
          unfold Lib.occAt at h3
          rw [List.isPrefixOf_iff_prefix, List.prefix_iff_eq_take] at h3
          have h4 : s.data.toList.drop j = sep.data.toList ++ s.data.toList.drop (j + sep.size) := by
            rw [← List.take_append_drop sep.data.toList.length (s.data.toList.drop j), ← h3, List.drop_drop, ← Lib.size_eq]
          rw [List.append_assoc, ← h4, List.take_append_drop]
theorem hasM_iff {s : ByteArray} : ∀ {l : List ByteArray}, hasT l s.toList = true ↔ s ∈ l
  | [] => by simp [hasT]
  | x :: r => by
    rw [hasT, List.mem_cons]
    split
    · have : x = s := eqL.1 (by assumption)
      simp [this]
    · rename_i h
      rw [hasM_iff]
      constructor
      · exact .inr
      · rintro (rfl | h')
        · exact (h (eqL.2 rfl)).elim
        · exact h'
theorem asc_in {l : List ByteArray} {i : Nat} {x : ByteArray} (h : (asc l)[i]? = some x) : hasT l x.toList = true :=
  hasM_iff.2 ((asc_mem l x).1 (List.mem_of_getElem? h))
theorem in_asc {l : List ByteArray} {i : Nat} {x : ByteArray} (h : l[i]? = some x) : hasT (asc l) x.toList = true :=
  hasM_iff.2 ((asc_mem l x).2 (List.mem_of_getElem? h))
theorem asc_less {l : List ByteArray} {i j : Nat} {x y : ByteArray} (hij : i < j) (hx : (asc l)[i]? = some x) (hy : (asc l)[j]? = some y) : Op.bytesLess x.toList y.toList = true := by
  obtain ⟨h1, rfl⟩ := List.getElem?_eq_some_iff.1 hx
  obtain ⟨h2, rfl⟩ := List.getElem?_eq_some_iff.1 hy
  exact lessL.2 (List.pairwise_iff_getElem.1 (asc_sorted l) i j h1 h2 hij)
theorem asc_asc (l : List ByteArray) : asc (asc l) = asc l := uniq (asc_sorted _) (asc_sorted _) fun x => asc_mem (asc l) x
end Go.Proofs.YtabbgabdbkbjcaaDoor.Pu
