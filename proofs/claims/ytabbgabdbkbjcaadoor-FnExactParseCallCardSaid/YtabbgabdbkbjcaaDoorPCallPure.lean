/- Calls read from a text, in plain Lean. -/
import Derived.Test.YtabbgabdbkbjcaaDoorPCellsPure
import Derived.Test.YtabbgabdbkbjcaaDoorCallText
import Derived.Test.YtabbgabdbkbjcaaDoorSplitsPure
namespace Go.Proofs.YtabbgabdbkbjcaaDoor.Pu
def spB : ByteArray := ⟨#[32]⟩
def cutA (p : ByteArray) : ByteArray := ⟨(Lib.cut p.data.toList [32]).1.toArray⟩
def cutR (p : ByteArray) : ByteArray := ⟨(Lib.cut p.data.toList [32]).2.1.toArray⟩
def nulB : ByteArray := ⟨#[]⟩
def nulC : CallD := ⟨nulB, nulB, 0, nulB⟩
/-- the program's candidate -/
def candF (g p h l : Bool) (m r : ByteArray) : CallD :=
  if p then ⟨m, cutA r, pnV (cutR r).toList, nulB⟩ else if g then ⟨m, r, 0, nulB⟩ else if h then ⟨m, nulB, pnV r.toList, nulB⟩ else if l then ⟨m, nulB, 0, r⟩ else ⟨m, nulB, 0, nulB⟩
def candI (s : ByteArray) : CallD := candF ((cutA s).toList == mGet) ((cutA s).toList == mPut) ((cutA s).toList == mHear) ((cutA s).toList == mLoad) (cutA s) (cutR s)
/-- the reference's candidate -/
def candG (g p h l : Bool) (m z : ByteArray) (L : List ByteArray) : CallD :=
  if g then ⟨m, z, 0, nulB⟩ else if p then ⟨m, joinB spB ((L.take (L.length - min 1 (L.length - 1))).drop 1), pnV z.toList, nulB⟩ else if h then ⟨m, nulB, pnV z.toList, nulB⟩ else if l then ⟨m, nulB, 0, joinB spB (L.drop 1)⟩ else ⟨m, nulB, 0, nulB⟩
def candL (L : List ByteArray) : CallD :=
  let m := L.headD nulB
  candG (m.toList == mGet) (m.toList == mPut) (m.toList == mHear) (m.toList == mLoad) m (L.getLastD nulB) L
def candS (s : ByteArray) : CallD := candL (splitA spB s)
def goodC (c : CallD) (s : ByteArray) : Bool := callB c && ((callT c).toList == s.toList)
def pcallB (s : ByteArray) : Bool := goodC (candI s) s
def pcallC (s : ByteArray) : CallD := if pcallB s then candI s else nulC
/-! ## Cutting at the first blank -/
def noSp (l : List UInt8) : Prop := ∀ c ∈ l, c ≠ 32
theorem index_at {a b : List UInt8} (h : noSp a) : Lib.index (a ++ 32 :: b) [32] = (a.length : Int) := by
  induction a with
  | nil => simp [Lib.index, List.isPrefixOf]
  | cons x r ih =>
    have hx : x ≠ 32 := h x (by simp)
    have ih' := ih fun c hc => h c (by simp [hc])
    rw [List.cons_append, Lib.index]
    have h1 : ([32] : List UInt8).isPrefixOf (x :: (r ++ 32 :: b)) = false := by simp [List.isPrefixOf, Ne.symm hx]
    rw [h1, ih']
    simp
theorem ofD {s : ByteArray} {l : List UInt8} (h : s.data.toList = l) : s = ⟨l.toArray⟩ := by subst h; exact (Lib.mk_data s).symm
theorem cut_sp {s : ByteArray} {a b : List UInt8} (hs : s.data.toList = a ++ 32 :: b) (h : noSp a) : cutA s = ⟨a.toArray⟩ ∧ cutR s = ⟨b.toArray⟩ := by
  have e : Lib.cut s.data.toList [32] = (a, b, true) := by
    rw [hs, Lib.cut, index_at h, if_pos (by omega)]
    simp
  rw [cutA, cutR, e]
  exact ⟨rfl, rfl⟩
theorem cut_all {s : ByteArray} (h : noSp s.data.toList) : cutA s = s ∧ cutR s = nulB := by
  have e : Lib.cut s.data.toList [32] = (s.data.toList, [], false) := by
    rw [Lib.cut, none_index h, if_neg (by omega)]
  rw [cutA, cutR, e]
  exact ⟨Lib.mk_data s, rfl⟩
theorem split_sp {s : ByteArray} {a b : List UInt8} (hs : s.data.toList = a ++ 32 :: b) (h : noSp a) : splitA spB s = ⟨a.toArray⟩ :: splitA spB ⟨b.toArray⟩ := by
  have hi : Lib.indexB s spB = (a.length : Int) := by
    show Lib.index s.data.toList [32] = _
    rw [hs, index_at h]
  have e1 : spB.size = 1 := rfl
  have e2 : s.extract 0 a.length = ⟨a.toArray⟩ := ofD (by rw [Lib.extract_from_zero, hs]; simp)
  have e3 : s.extract (a.length + 1) s.size = ⟨b.toArray⟩ := ofD (by rw [drop_ext, hs]; simp)
  rw [splitA_hit (by decide) hi, e1, e2, e3]
theorem split_all {s : ByteArray} (h : noSp s.data.toList) : splitA spB s = [s] := splitA_miss (by decide) (none_index h)
/-! ## What a valid call is made of -/
theorem name_noSp {k : ByteArray} (h : nameL k.toList = true) : noSp k.data.toList := by
  simp only [nameL, Bool.and_eq_true] at h
  rw [Lib.toList_data] at h
  have hl : ∀ (l : List UInt8) (f : Bool), lettersF f l = true → noSp l := by
    intro l
    induction l with
    | nil => intro _ _ c hc; cases hc
    | cons x r ih =>
      intro f hf c hc
      simp only [lettersF, Bool.and_eq_true] at hf
      rcases List.mem_cons.1 hc with rfl | hc
      · intro e
        subst e
        have := hf.1
        cases f <;> exact absurd this (by decide)
      · exact ih false hf.2 c hc
  exact hl _ _ h.2
theorem num_noSp {n : Int} (h : isNum n = true) : noSp (numB n).data.toList := by
  have h1 := isNum_bd h
  have h2 := (pn_hit h1.1 h1.2 rfl).2
  intro c hc
  exact (num_no h2 c hc).2.1
def hasK' : List (List UInt8) → List UInt8 → Bool
  | [], _ => false
  | x :: r, s => if x == s then true else hasK' r s
theorem hasT_meth' (s : List UInt8) : ∀ m : List (List UInt8), hasT (m.map fun l => ⟨l.toArray⟩) s = hasK' m s
  | [] => rfl
  | x :: r => by rw [List.map_cons, hasT, hasK', Lib.toList_data, hasT_meth' s r]
theorem hasK_mem {s : List UInt8} : ∀ {m : List (List UInt8)}, hasK' m s = true → s ∈ m
  | [], h => by cases h
  | x :: r, h => by
    rw [hasK'] at h
    split at h
    · rename_i he
      have : x = s := by simpa using he
      simp [this]
    · exact List.mem_cons_of_mem _ (hasK_mem h)
theorem abFrom_mem {s : List UInt8} : ∀ n k : Nat, 0 ≤ abFrom s k n → ∃ j, j < k + n ∧ s ∈ meth j
  | 0, k, h => by simp [abFrom] at h
  | n + 1, k, h => by
    rw [abFrom] at h
    split at h
    · rename_i he
      rw [methB, hasT_meth'] at he
      exact ⟨k, by omega, hasK_mem he⟩
    · obtain ⟨j, h1, h2⟩ := abFrom_mem n (k + 1) h
      exact ⟨j, by omega, h2⟩
theorem meth_plain : ∀ j : Nat, j < 6 → (meth j).all (fun s => s.all (fun c => c != 32) && !(s == [])) = true := by decide
theorem ab_plain {s : List UInt8} (h : 0 ≤ abOf s) : noSp s ∧ s ≠ [] := by
  obtain ⟨j, h1, h2⟩ := abFrom_mem 6 0 h
  have h3 := List.all_eq_true.1 (meth_plain j (by omega)) s h2
  simp only [Bool.and_eq_true, Bool.not_eq_true', beq_eq_false_iff_ne] at h3
  refine ⟨fun c hc => ?_, h3.2⟩
  have := List.all_eq_true.1 h3.1 c hc
  simpa using this
theorem bytes_nil {t : ByteArray} (h : t.toList = []) : t = nulB := by
  rw [Lib.toList_data] at h
  exact ofD h
theorem bytes_of {t : ByteArray} {l : List UInt8} (h : (t.toList == l) = true) : t = ⟨l.toArray⟩ := by
  have h' : t.toList = l := by simpa using h
  rw [Lib.toList_data] at h'
  exact ofD h'
theorem mk_list (l : List UInt8) : (⟨l.toArray⟩ : ByteArray).toList = l := by rw [Lib.toList_data]
theorem back (t : ByteArray) : (⟨t.data.toList.toArray⟩ : ByteArray) = t := Lib.mk_data t
theorem pn_numB {n : Int} (h : isNum n = true) : pnV (numB n).toList = n := by
  have h1 := isNum_bd h
  rw [numB, mk_list]
  exact (pn_hit h1.1 h1.2 rfl).1
theorem join_one' (x : ByteArray) : joinB spB [x] = x := by
  rw [← joinB_lib]
  simp [Lib.join_one]
/-- both candidates give a valid call back from its text -/
theorem cand_back {x : CallD} (h : callB x = true) : candI (callT x) = x ∧ candS (callT x) = x ∧ (callT x).toList ≠ [] := by
  obtain ⟨method, key, value, text⟩ := x
  have hT : callT ⟨method, key, value, text⟩ = callTo (method.toList == mGet) (method.toList == mPut) (method.toList == mHear) (method.toList == mLoad) ⟨method, key, value, text⟩ := by rw [callT, if_pos h]
  rw [callB] at h
  rcases method_cases method.toList with ⟨hg, hp, hh, hl⟩ | ⟨hg, hp, hh, hl⟩ | ⟨hg, hp, hh, hl⟩ | ⟨hg, hp, hh, hl⟩ | ⟨hg, hp, hh, hl⟩
  all_goals
    rw [hT, hg, hp, hh, hl]
    rw [hg, hp, hh, hl] at h
    simp only [callOf, Bool.and_eq_true, Bool.or_eq_true, Bool.false_eq_true, if_false, if_true, or_false, or_true, and_true] at h
    simp only [callTo, Bool.false_eq_true, if_false, if_true]
    clear hT
  · -- Get
    obtain ⟨⟨_, ht⟩, hk, hv⟩ := h
    obtain rfl := bytes_of hg
    obtain rfl := bytes_nil (by simpa using ht)
    obtain rfl : value = 0 := by simpa using hv
    have e : ((⟨#[71, 101, 116, 32]⟩ : ByteArray) ++ key).data.toList = [71, 101, 116] ++ 32 :: key.data.toList := by simp [ByteArray.data_append]
    have hn : noSp ([71, 101, 116] : List UInt8) := by unfold noSp; decide
    obtain ⟨c1, c2⟩ := cut_sp e hn
    have hs := split_sp e hn
    rw [back] at c2 hs
    rw [split_all (name_noSp hk)] at hs
    refine ⟨?_, ?_, ?_⟩
    · rw [candI, c1, c2, mk_list]; rfl
    · rw [candS, hs, candL]; simp only [List.headD, mk_list]; rfl
    · rw [Lib.toList_data, e]; simp
  · -- Put
    obtain ⟨⟨_, ht⟩, hk, hv⟩ := h
    obtain rfl := bytes_of hp
    obtain rfl := bytes_nil (by simpa using ht)
    have e : ((⟨#[80, 117, 116, 32]⟩ : ByteArray) ++ key ++ ⟨#[32]⟩ ++ numB value).data.toList = [80, 117, 116] ++ 32 :: (key.data.toList ++ 32 :: (numB value).data.toList) := by simp [ByteArray.data_append]
    have hn : noSp ([80, 117, 116] : List UInt8) := by unfold noSp; decide
    obtain ⟨c1, c2⟩ := cut_sp e hn
    obtain ⟨d1, d2⟩ := cut_sp (s := ⟨(key.data.toList ++ 32 :: (numB value).data.toList).toArray⟩) rfl (name_noSp hk)
    have hs := split_sp e hn
    rw [split_sp (s := ⟨(key.data.toList ++ 32 :: (numB value).data.toList).toArray⟩) rfl (name_noSp hk), back, back, split_all (num_noSp hv)] at hs
    rw [back] at d1 d2
    refine ⟨?_, ?_, ?_⟩
    · rw [candI, c1, c2, mk_list]
      simp only [candF, d1, d2, pn_numB hv]; rfl
    · rw [candS, hs, candL]
      simp only [List.headD, mk_list]
      show candG false true false false _ (numB value) _ = _
      simp only [candG, Bool.false_eq_true, if_false, if_true, pn_numB hv]
      show CallD.mk _ (joinB spB [key]) _ _ = _
      rw [join_one']; rfl
    · rw [Lib.toList_data, e]; simp
  · -- Hear
    obtain ⟨⟨_, ht⟩, hk, hv⟩ := h
    obtain rfl := bytes_of hh
    obtain rfl := bytes_nil (by simpa using ht)
    obtain rfl := bytes_nil (by simpa using hk)
    have e : ((⟨#[72, 101, 97, 114, 32]⟩ : ByteArray) ++ numB value).data.toList = [72, 101, 97, 114] ++ 32 :: (numB value).data.toList := by simp [ByteArray.data_append]
    have hn : noSp ([72, 101, 97, 114] : List UInt8) := by unfold noSp; decide
    obtain ⟨c1, c2⟩ := cut_sp e hn
    have hs := split_sp e hn
    rw [back] at c2 hs
    rw [split_all (num_noSp hv)] at hs
    refine ⟨?_, ?_, ?_⟩
    · rw [candI, c1, c2, mk_list]
      show CallD.mk _ _ (pnV (numB value).toList) _ = _
      rw [pn_numB hv]; rfl
    · rw [candS, hs, candL]
      simp only [List.headD, mk_list]
      show CallD.mk _ _ (pnV (numB value).toList) _ = _
      rw [pn_numB hv]; rfl
    · rw [Lib.toList_data, e]; simp
  · -- Load
    obtain ⟨_, hk, hv⟩ := h
    obtain rfl := bytes_of hl
    obtain rfl := bytes_nil (by simpa using hk)
    obtain rfl : value = 0 := by simpa using hv
    have e : ((⟨#[76, 111, 97, 100, 32]⟩ : ByteArray) ++ text).data.toList = [76, 111, 97, 100] ++ 32 :: text.data.toList := by simp [ByteArray.data_append]
    have hn : noSp ([76, 111, 97, 100] : List UInt8) := by unfold noSp; decide
    obtain ⟨c1, c2⟩ := cut_sp e hn
    have hs := split_sp e hn
    rw [back] at c2 hs
    refine ⟨?_, ?_, ?_⟩
    · rw [candI, c1, c2, mk_list]; rfl
    · rw [candS, hs, candL]
      simp only [List.headD, mk_list]
      show CallD.mk _ _ _ (joinB spB (splitA spB text)) = _
      rw [join_split spB _ text (Nat.le_refl _)]; rfl
    · rw [Lib.toList_data, e]; simp
  · -- others
    obtain ⟨⟨hab, ht⟩, hk, hv⟩ := h
    obtain rfl := bytes_nil (by simpa using ht)
    obtain rfl := bytes_nil (by simpa using hk)
    obtain rfl : value = 0 := by simpa using hv
    obtain ⟨hn, hne⟩ := ab_plain (s := method.toList) (by simpa using hab)
    rw [Lib.toList_data] at hn
    obtain ⟨c1, c2⟩ := cut_all hn
    have hs := split_all hn
    refine ⟨?_, ?_, hne⟩
    · rw [candI, c1, c2, hg, hp, hh, hl]; rfl
    · rw [candS, hs, candL]
      simp only [List.headD]
      rw [hg, hp, hh, hl]; rfl
theorem good_iff {c : CallD} {s : ByteArray} (h : goodC c s = true) : callT c = s := by
  simp only [goodC, Bool.and_eq_true] at h
  have h2 : (callT c).toList = s.toList := by simpa using h.2
  rw [Lib.toList_data, Lib.toList_data] at h2
  rw [ofD h2, Lib.mk_data]
/-- the reference's test, and the program's -/
theorem spec_good {s : ByteArray} (h : ((callT (candS s)).toList == s.toList) = true) (hne : (s.toList == []) = false) : pcallB s = true ∧ pcallC s = candS s := by
  rcases hb : callB (candS s) with _ | _
  · have e : callT (candS s) = nulB := by rw [callT, hb]; rfl
    rw [e] at h
    have h2 : (nulB : ByteArray).toList = s.toList := by simpa using h
    rw [← h2] at hne
    exact absurd hne (by rw [nulB, mk_list]; decide)
  · have hgood : goodC (candS s) s = true := by rw [goodC, hb, h]; rfl
    have he := good_iff hgood
    obtain ⟨h1, h2, _⟩ := cand_back hb
    rw [he] at h1
    have hI : pcallB s = true := by rw [pcallB, h1]; exact hgood
    exact ⟨hI, by rw [pcallC, if_pos hI, h1]⟩
theorem spec_bad {s : ByteArray} (h : ((callT (candS s)).toList == s.toList) = false ∨ (s.toList == []) = true) : pcallB s = false ∧ pcallC s = nulC := by
  have hB : pcallB s = false := by
    rw [Bool.eq_false_iff]
    intro hc
    have hb : callB (candI s) = true := by simp only [pcallB, goodC, Bool.and_eq_true] at hc; exact hc.1
    have he := good_iff hc
    obtain ⟨_, h2, h3⟩ := cand_back hb
    rw [he] at h2 h3
    rcases h with h | h
    · rw [h2, he] at h
      simp at h
    · exact h3 (by simpa using h)
  exact ⟨hB, by rw [pcallC, hB]; rfl⟩
theorem joinB_sz (sep : ByteArray) (l : List ByteArray) : (joinB sep l).size ≤ l.length * sep.size + tot l := by
  rw [← joinB_lib]
  exact Nat.le_trans (Nat.le_of_eq (by simp [ByteArray.size])) (joinLen sep l)
theorem join_rest (s m : ByteArray) (rest : List ByteArray) (h : splitA spB s = m :: rest) : (joinB spB rest).size ≤ s.size := by
  have hj := join_split spB _ s (Nat.le_refl _)
  rw [h] at hj
  rcases rest with _ | ⟨y, r⟩
  · exact Nat.zero_le _
  · have h1 := congrArg (fun t : ByteArray => t.data.toList.length) hj
    simp only [joinB_data, List.map_cons, join_two, List.length_append] at h1
    have h2 : (joinB spB (y :: r)).data.toList.length = (joinB spB (y :: r)).size := rfl
    rw [joinB_data, List.map_cons] at h2
    have h3 : s.data.toList.length = s.size := rfl
    omega
end Go.Proofs.YtabbgabdbkbjcaaDoor.Pu
