/- Contracts: texts divided at a separator. -/
import Derived.Test.YtabbgabdbkbjcaaDoorLibV
import Derived.Test.YtabbgabdbkbjcaaDoorSplitPure
import Derived.Test.YtabbgabdbkbjcaaDoorMem
import Derived.Deep.QuietTactic
import Derived.BigQuiet
import Derived.Deep.AppendLies
namespace Go.Proofs.YtabbgabdbkbjcaaDoor
open Go.ChangeShapes Go.WideShapes Go.ChangeAt Go.RowKit
set_option maxRecDepth 100000
theorem one_txtS (n : ByteArray) : ∀ u ∈ [Value.string n], u.oneCell' = true := by simp [Value.oneCell']
/-- a new row of texts that the call laid whole -/
theorem own_strs {w : World} {e : TypeId} (l : List ByteArray) {n : Nat} (hn : n = l.length) (hm : n ≤ maxLen) :
    OwnL (w.alloc (.cells (l.map Value.string).toArray e)) w.heap.size e 1 strEn (.slice (some ⟨w.heap.size, 0, none⟩) n n) l := by
  subst hn
  have hfl : (l.flatMap strEn).length = l.length * 1 := flat_len (en := strEn) (size := 1) (fun _ => rfl) l
  refine ⟨hfl, .inr ⟨w.heap.size, l.length, (l.map Value.string).toArray, rfl, Nat.le_refl _, heap_alloc_new w _, Nat.le_refl _, hm, by simp, ?_⟩⟩
  rw [flat_str, Nat.mul_one, show l.length = (l.map Value.string).length by simp]
  exact List.take_length
theorem sep_nil {sep : ByteArray} (h : sep.size = 0) : (sep.toList == []) = true := by
  rw [← lenB] at h
  rw [List.eq_nil_of_length_eq_zero h]; rfl
theorem sep_some {sep : ByteArray} (h : 1 ≤ sep.size) : (sep.toList == []) = false := by
  rw [← lenB] at h
  rcases hl : sep.toList with _ | ⟨x, r⟩
  · rw [hl] at h; simp at h
  · rfl
theorem iSplitAt_c (s sep : ByteArray) (w : World) (hM : MaxC w) (hs : s.size ≤ 16777216) :
    Calls Tryd.prog 8 #[.string s, .string sep] w fun e w' => ∃ v, e = .returned v ∧ OwnL w' w.heap.size 9 1 strEn v (Pu.splitA sep s) ∧ Below w.heap.size w w' := by
  obtain ⟨m, hm⟩ := hM
  have HM := hide hm
  clear hm
  by_cases h0 : sep.size = 0
  · have hq := sep_nil h0
    have HF : Hid (Pu.splitA sep s = [s]) := Pu.splitA_nul h0
    clear h0
    go_enter Tryd.func8, Tryd.ntmps8
    go_wp2
    go_ret
    exact ⟨_, rfl, by rw [HF.out]; exact own_strs [s] rfl (by decide), below_alloc (Below.refl _ _) _⟩
  · have hq := sep_some (sep := sep) (by omega)
    have HF : Hid (Pu.splitA sep s = Lib.splitB sep 0 (Lib.countB s sep) s) := by rw [Hid, Pu.splitA, if_neg h0]
    have hlen := Lib.splitB_all sep (by omega) 0 _ s rfl
    have hle := Lib.countB_le sep (by omega) s.size s (Nat.le_refl _)
    go_enter Tryd.func8, Tryd.ntmps8
    go_wp2_with fail
    refine (Tryd.strings_Split s sep m _ (by omega) HM.out (by omega)).mono ?_; rintro e w1 ⟨rfl, rfl⟩
    go_wp2
    go_ret
    exact ⟨_, rfl, by rw [HF.out]; exact own_strs _ hlen.symm (by unfold maxLen; omega), below_alloc (Below.refl _ _) _⟩
/-- the library's own division -/
theorem iSplitAt_cc (s sep : ByteArray) (w : World) (hM : MaxC w) (hs : s.size ≤ 16777216) (h1 : 1 ≤ sep.size) :
    Calls Tryd.prog 27 #[.string s, .string sep] w fun e w' => ∃ v, e = .returned v ∧ OwnL w' w.heap.size 9 1 strEn v (Pu.splitA sep s) ∧ Below w.heap.size w w' := by
  obtain ⟨m, hm⟩ := hM
  have hlen := Lib.splitB_all sep h1 0 _ s rfl
  have hle := Lib.countB_le sep h1 s.size s (Nat.le_refl _)
  refine (Tryd.strings_Split s sep m w (by omega) hm h1).mono ?_
  rintro e w' ⟨rfl, rfl⟩
  exact ⟨_, rfl, by rw [Pu.splitA, if_neg (by omega)]; exact own_strs _ hlen.symm (by unfold maxLen; omega), below_alloc (Below.refl _ _) _⟩
set_option maxHeartbeats 1000000 in
theorem sSplitAt_c (s sep : ByteArray) (w : World) (hs : s.size ≤ 16777216) (hsp : sep.size ≤ 16777216) :
    Calls Tryd.prog 7 #[.string s, .string sep] w fun e w' => ∃ v, e = .returned v ∧ OwnL w' w.heap.size 9 1 strEn v (Pu.splitA sep s) ∧ Below w.heap.size w w' := by
  obtain ⟨i0, hi, hz0, hz1, hz2⟩ := info_parts info_str
  have hown0 : OwnL (w.alloc (.cells #[] 9 : Obj)) w.heap.size 9 1 strEn (.slice (some ⟨w.heap.size, 0, none⟩) 0 0) ([] : List ByteArray) := World.ownsRow_made w #[] 0 (Nat.le_refl _) (Nat.zero_le _) rfl
  have hb0 : Below w.heap.size w (w.alloc (.cells #[] 9 : Obj)) := below_alloc (Below.refl _ _) _
  have hsz0 : (w.alloc (.cells #[] 9 : Obj)).heap.size = w.heap.size + 1 := by simp
  by_cases h0 : sep.size = 0
  · have hq := sep_nil h0
    have HF : Hid (Pu.splitA sep s = [s]) := Pu.splitA_nul h0
    have hxa := Pu.ext_all s
    clear h0
    go_enter Tryd.func7, Tryd.ntmps7
    go_wp2
    refine wp_loop_rounds 1 ?_
    rw [rounds_succ]
    go_wp2_with (at_builtin; go_must (refine push_law rfl _ _ 22 (by exact rfl) w.heap.size 9 i0 (.string ByteArray.empty) 1 16 Tryd.underlying22 hi hz0 hz1 hz2 rfl (by decide) strEn _ _ s (by exact rfl) hown0 (by rw [hsz0]; exact rfl) rfl (one_txtS _) hb0 (Nat.le_refl _) hb0.size (by simp) (by decide) ?_); intro v1 w1 hown1 hg1 hb1)
    go_ret
    exact ⟨_, rfl, by rw [HF.out]; exact hown1, hb1⟩
  · have hq := sep_some (sep := sep) (by omega)
    have h1 : 1 ≤ sep.size := by omega
    go_enter Tryd.func7, Tryd.ntmps7
    go_wp2
    go_loopw [5, 6, 7] (fun v f i wr => ∃ (a b : Nat) (o : List ByteArray), a ≤ b ∧ b ≤ s.size ∧ f = .int .i64 a ∧ i = .int .i64 b ∧ o.length ≤ a ∧ Hid (Pu.splitA sep s = o ++ Pu.splitA sep (s.extract a s.size)) ∧ Hid (Pu.NoSep sep s a b) ∧ OwnL wr w.heap.size 9 1 strEn v o ∧ Below w.heap.size w wr) (fun _ _ i _ => s.size - (intOf i).toNat)
    case atStart => exact ⟨0, 0, [], by omega, by omega, rfl, rfl, by simp, by rw [Hid, Pu.ext_all]; rfl, Pu.noSep_start _ _ _, hown0, hb0⟩
    case round =>
      obtain ⟨a, b, o, hab, hbs, rfl, rfl, hol, HD, HN, hown, hb⟩ := hrel
      by_cases hlt : b + sep.size ≤ s.size
      · rcases he : ((s.extract b (b + sep.size)).toList == sep.toList) with _ | _
        · have HN1 := hide (Pu.noSep_step hab HN.out he)
          go_wp2
          go_roundw
          case rel => exact ⟨a, b + 1, o, by omega, by omega, rfl, by go_num, hol, HD, HN1, hown, hb⟩
          case measure => simp [intOf]; omega
        · have HS := hide (Pu.split_found h1 hab hlt HN.out he)
          go_wp2_with (at_builtin; go_must (refine push_law rfl _ _ 22 (by exact rfl) w.heap.size 9 i0 (.string ByteArray.empty) 1 16 Tryd.underlying22 hi hz0 hz1 hz2 rfl (by decide) strEn _ _ (s.extract a b) (by exact rfl) hown (by exact rfl) rfl (one_txtS _) hb (Nat.le_refl _) hb.size (by omega) (by decide) ?_); intro v1 w1 hown1 hg1 hb1)
          go_roundw
          case rel => exact ⟨b + sep.size, b + sep.size, _, by omega, by omega, by go_num, by go_num, by simp; omega, by rw [Hid, HD.out, HS.out]; simp, Pu.noSep_start _ _ _, hown1, hb1⟩
          case measure => simp [intOf]; omega
      · have HP := hide (Pu.split_past h1 hab (by omega) (by omega) HN.out)
        go_wp2_with (at_builtin; go_must (refine push_law rfl _ _ 22 (by exact rfl) w.heap.size 9 i0 (.string ByteArray.empty) 1 16 Tryd.underlying22 hi hz0 hz1 hz2 rfl (by decide) strEn _ _ (s.extract a s.size) (by exact rfl) hown (by exact rfl) rfl (one_txtS _) hb (Nat.le_refl _) hb.size (by omega) (by decide) ?_); intro v1 w1 hown1 hg1 hb1)
        go_ret
        exact ⟨_, rfl, by rw [HD.out, HP.out]; exact hown1, hb1⟩
end Go.Proofs.YtabbgabdbkbjcaaDoor
