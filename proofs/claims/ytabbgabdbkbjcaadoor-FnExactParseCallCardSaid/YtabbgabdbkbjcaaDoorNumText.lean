/- Contracts: numbers as texts. -/
import Derived.Test.YtabbgabdbkbjcaaDoorLibV
import Derived.Test.YtabbgabdbkbjcaaDoorNumPure
import Derived.Test.YtabbgabdbkbjcaaDoorCells
import Derived.Sort.Grow
import Derived.Laws.IdiomStrings
import Derived.Lib.UnsafeStr
namespace Go.Proofs.YtabbgabdbkbjcaaDoor
open Go.ChangeShapes Go.WideShapes Go.ChangeAt Go.RowKit
set_option maxRecDepth 100000
theorem wf_range {n : Int} (h : (Lit.int .i64 n).wf = true) : -9223372036854775808 ≤ n ∧ n ≤ 9223372036854775807 := by
  have h1 : IntKind.i64.min = -9223372036854775808 := by decide
  have h2 : IntKind.i64.max = 9223372036854775807 := by decide
  simp only [Lit.wf, h1, h2, Bool.and_eq_true, decide_eq_true_eq] at h
  exact h
theorem below_bytes (w : World) (e : TypeId) (s : ByteArray) : Below w.heap.size w (Lib.bytesWorld w e s) :=
  Lib.below_freeze ((Below.drew (Below.refl _ w)).alloc (Nat.le_refl _) _) (p := ⟨w.heap.size, _, none⟩) (Nat.le_refl _) 1
theorem below_growD (w : World) (k : Nat) (os : Array Obj) : Below w.heap.size w (Sort.grow (w.drewN k) os) :=
  ⟨rfl, rfl, rfl, by simp [Sort.grow], fun g hg => by
    show ((w.drewN k).heap ++ os)[g]? = w.heap[g]?
    rw [Array.getElem?_append_left (by simpa using hg)]; rfl⟩
theorem iFormatNumber_c (n : Int) (w : World) (hT : Pow10 w) (h0 : -9223372036854775808 ≤ n) (h1 : n ≤ 9223372036854775807) :
    Calls Tryd.prog 58 #[.int .i64 n] w fun e w' => e = .returned (.string (Pu.numB n)) ∧ Below w.heap.size w w' := by
  have HT := hide hT
  clear hT
  go_enter Tryd.func58, Tryd.ntmps58
  go_wp2_with fail
  refine (Tryd.strconv_Itoa n h0 h1 _ HT.out).mono ?_; rintro e W1 ⟨rfl, k, os, rfl⟩
  go_wp2
  go_ret
  exact ⟨rfl, below_growD _ _ _⟩
set_option maxHeartbeats 1000000 in
def Pu.dgt (n : Nat) : UInt8 := UInt8.ofNat (48 + n % 10)
theorem digit_conv (n : Nat) (w : World) :
    (convert 27 9 (.slice (some ⟨w.heap.size, 0, none⟩) 1 1)).run Tryd.prog (w.alloc (.cells #[.int .u8 (48 + (n : Int) % 10)] 5)) = .ok (.string ⟨#[Pu.dgt n]⟩) (w.alloc (.cells #[.int .u8 (48 + (n : Int) % 10)] 5)) := by
  have e : (48 + (n : Int) % 10) = ((Pu.dgt n).toNat : Int) := by
    have h1 : (Pu.dgt n).toNat = (48 + n % 10) % 256 := by unfold Pu.dgt; exact UInt8.toNat_ofNat' 
    rw [h1]; omega
  rw [e]
  refine run_convert_bytes_back _ _ _ 5 ⟨w.heap.size, 0, none⟩ 1 [Pu.dgt n] Tryd.underlying27 Tryd.underlying5 Tryd.underlying9 fun j hj => ?_
  obtain rfl : j = 0 := by simpa using hj
  exact cell_of_row _ w.heap.size 0 _ _ (0, 0) (heap_new rfl)
theorem dec_small {n : Nat} (h : n < 10) : (⟨(Lib.decDigits n).toArray⟩ : ByteArray) = ⟨#[Pu.dgt n]⟩ := by
  rw [Lib.decDigits_one h, Pu.dgt, Nat.mod_eq_of_lt h]
theorem dec_more {n : Nat} (h : ¬ n < 10) : (⟨(Lib.decDigits n).toArray⟩ : ByteArray) = ⟨(Lib.decDigits (n / 10)).toArray⟩ ++ ⟨#[Pu.dgt n]⟩ := by
  rw [Lib.decDigits, dif_neg h, Pu.dgt]
  apply ByteArray.ext
  apply Array.toList_inj.1
  simp [ByteArray.data_append]
theorem dec_size {n : Nat} (h : n < 9223372036854775808) : (⟨(Lib.decDigits n).toArray⟩ : ByteArray).size ≤ 20 := by
  have := Pu.itoa_len (n := (n : Int)) (by omega) (by omega)
  rw [Lib.itoa, if_neg (by omega), Int.toNat_natCast] at this
  simpa [ByteArray.size] using this
theorem sNat_c : ∀ (n : Nat) (w : World), n < 9223372036854775808 →
    Calls Tryd.prog 53 #[.int .i64 n] w fun e w' => e = .returned (.string ⟨(Lib.decDigits n).toArray⟩) ∧ Below w.heap.size w w' := by
  intro n
  induction n using Nat.strongRecOn with
  | _ n ih =>
    intro w hn
    have hcv := digit_conv n w
    by_cases h : n < 10
    · have HD := hide (dec_small h)
      clear ih
      go_enter Tryd.func53, Tryd.ntmps53
      go_wp2
      go_ret
      exact ⟨ret_str HD.out.symm, below_alloc (Below.refl _ _) _⟩
    · have hr := ih (n / 10) (by omega)
      have HD := hide (dec_more h)
      have hz := dec_size (n := n / 10) (by omega)
      have hz2 : ¬ 9223372036854775807 < (⟨(Lib.decDigits (n / 10)).toArray⟩ : ByteArray).size + (⟨#[Pu.dgt n]⟩ : ByteArray).size := by
        have : (⟨#[Pu.dgt n]⟩ : ByteArray).size = 1 := rfl
        omega
      clear ih
      go_enter Tryd.func53, Tryd.ntmps53
      go_wp2_with fail
      refine (hr _ (by omega)).mono ?_; rintro e W1 ⟨rfl, b1⟩
      go_wp2
      go_ret
      exact ⟨ret_str HD.out.symm, below_then (below_alloc (Below.refl _ _) _) b1⟩
theorem neg_text {k : Nat} (h : -(k : Int) < 0) : Pu.numB (-(k : Int)) = ⟨#[45]⟩ ++ ⟨(Lib.decDigits k).toArray⟩ := by
  rw [Pu.numB, Lib.itoa, if_pos h, Int.natAbs_neg, Int.natAbs_natCast]
  apply ByteArray.ext
  apply Array.toList_inj.1
  simp [ByteArray.data_append]
theorem sFormatNumber_c (n : Int) (w : World) (h0 : -9223372036854775808 ≤ n) (h1 : n ≤ 9223372036854775807) :
    Calls Tryd.prog 53 #[.int .i64 n] w fun e w' => e = .returned (.string (Pu.numB n)) ∧ Below w.heap.size w w' := by
  by_cases hneg : n < 0
  · by_cases hm : n = -9223372036854775808
    · have HD : Hid (Pu.numB n = ⟨#[45, 57, 50, 50, 51, 51, 55, 50, 48, 51, 54, 56, 53, 52, 55, 55, 53, 56, 48, 56]⟩) := by
        subst hm
        rw [Hid, Pu.numB, Lib.itoa, if_pos (by decide)]
        congr 1
        simp [Lib.decDigits]
      go_enter Tryd.func53, Tryd.ntmps53
      go_wp2
      go_ret
      exact ⟨ret_str HD.out.symm, Below.refl _ _⟩
    · obtain ⟨k, rfl⟩ : ∃ k : Nat, n = -(k : Int) := ⟨n.natAbs, by omega⟩
      have HD := hide (neg_text hneg)
      have hr := sNat_c k
      have hz := dec_size (n := k) (by omega)
      have hz2 : ¬ 9223372036854775807 < (⟨#[45]⟩ : ByteArray).size + (⟨(Lib.decDigits k).toArray⟩ : ByteArray).size := by
        have : (⟨#[45]⟩ : ByteArray).size = 1 := rfl
        omega
      go_enter Tryd.func53, Tryd.ntmps53
      go_wp2_with fail
      refine (hr _ (by omega)).mono ?_; rintro e W1 ⟨rfl, b1⟩
      go_wp2
      go_ret
      exact ⟨ret_str HD.out.symm, b1⟩
  · obtain ⟨k, rfl⟩ := Int.eq_ofNat_of_zero_le (show 0 ≤ n by omega)
    refine (sNat_c k w (by omega)).mono ?_
    rintro e w' ⟨rfl, hb⟩
    refine ⟨ret_str ?_, hb⟩
    rw [Pu.numB, Lib.itoa, if_neg hneg, Int.toNat_natCast]
theorem iParseNumber_c (s : ByteArray) (w : World) (hT : Pow10 w) (hE : ErrSyn w) :
    Calls Tryd.prog 41 #[.string s] w fun e w' => e = .returned (.tuple #[.int .i64 (Pu.pnV s.toList), .bool (Pu.pnB s.toList)]) ∧ Below w.heap.size w w' := by
  by_cases h1 : s.size < 1
  · have HM := hide (Pu.pn_miss (s := s.toList) fun n _ e => by have := (Pu.numK_len n).1; rw [e, lenB] at this; omega)
    clear hT hE
    go_enter Tryd.func41, Tryd.ntmps41
    go_wp2
    go_ret2
    exact ⟨by rw [HM.out.1, HM.out.2]; rfl, Below.refl _ _⟩
  by_cases h3 : 3 < s.size
  · have HM := hide (Pu.pn_miss (s := s.toList) fun n _ e => by have := (Pu.numK_len n).2; rw [e, lenB] at this; omega)
    clear hT hE
    go_enter Tryd.func41, Tryd.ntmps41
    go_wp2
    go_ret2
    exact ⟨by rw [HM.out.1, HM.out.2]; rfl, Below.refl _ _⟩
  have hlt := hT.lt
  have HT := hide hT
  obtain ⟨te, pe, he⟩ := hE
  have HE := hide he
  clear hT he
  rcases ha : Lib.atoi s.data.toList with _ | n
  · have HM := hide (Pu.pn_miss (s := s.toList) fun n hn e => by have := Pu.atoi_K n hn; rw [e, Lib.toList_data, ha] at this; cases this)
    go_enter Tryd.func41, Tryd.ntmps41
    go_wp2_with fail
    refine (Tryd.strconv_Atoi_err s (by omega) ha _ _ HE.out (.inr ⟨te, pe, rfl⟩)).mono ?_; rintro e W1 ⟨N, rfl, _, _, b1⟩
    go_wp2
    go_ret2
    exact ⟨by rw [HM.out.1, HM.out.2]; rfl, b1⟩
  · have hmiss : (∀ h0 : 0 ≤ n, ∀ h1 : n ≤ 999, Lib.itoa n ≠ s.toList) → Pu.pnV s.toList = 0 ∧ Pu.pnB s.toList = false := fun h => Pu.pn_miss (s := s.toList) fun m hm e => by
      have h1 := Pu.atoi_K m hm
      rw [e, Lib.toList_data, ha] at h1
      have h2 : n = m := Option.some.inj h1
      exact h (by omega) (by omega) (by rw [h2, Pu.itoa_K hm]; exact e)
    have HA := hide ha
    clear ha
    rcases hn : Pu.isNum n with _ | _
    · have HM := hide (hmiss fun h0 h1 => by simp [Pu.isNum] at hn; omega)
      clear hmiss
      go_enter Tryd.func41, Tryd.ntmps41
      go_wp2_with fail
      refine (Tryd.strconv_Atoi s n (by omega) HA.out _).mono ?_; rintro e W1 ⟨rfl, t, rfl⟩
      have B1 := below_bytes w 5 t
      generalize Lib.bytesWorld w 5 t = W1 at B1 ⊢
      go_wp2_with (go_at_call 57; refine (isNumber_c _ _).mono ?_; rintro e w' ⟨rfl, rfl⟩; rw [hn])
      go_ret2
      exact ⟨by rw [HM.out.1, HM.out.2]; rfl, B1⟩
    · have hbd : 0 ≤ n ∧ n ≤ 999 := by simpa [Pu.isNum] using hn
      rcases hq : ((Pu.numB n).toList == s.toList) with _ | _
      · have HM := hide (hmiss fun _ _ e => by rw [Pu.numB, Lib.toList_data] at hq; simp [e] at hq)
        clear hmiss
        go_enter Tryd.func41, Tryd.ntmps41
        go_wp2_with fail
        refine (Tryd.strconv_Atoi s n (by omega) HA.out _).mono ?_; rintro e W1 ⟨rfl, t, rfl⟩
        have B1 := below_bytes w 5 t
        generalize Lib.bytesWorld w 5 t = W1 at B1 ⊢
        go_wp2_with (first
          | (go_at_call 57; refine (isNumber_c _ _).mono ?_; rintro e w' ⟨rfl, rfl⟩; rw [hn])
          | (go_at_call 58; refine (iFormatNumber_c _ _ (HT.out.below B1 hlt) (by omega) (by omega)).mono ?_; rintro e W2 ⟨rfl, b2⟩))
        go_ret2
        exact ⟨by rw [HM.out.1, HM.out.2]; rfl, below_then B1 b2⟩
      · have HM := hide (Pu.pn_hit (s := s.toList) hbd.1 hbd.2 (by rw [Pu.numB, Lib.toList_data] at hq; simpa using hq))
        clear hmiss
        go_enter Tryd.func41, Tryd.ntmps41
        go_wp2_with fail
        refine (Tryd.strconv_Atoi s n (by omega) HA.out _).mono ?_; rintro e W1 ⟨rfl, t, rfl⟩
        have B1 := below_bytes w 5 t
        generalize Lib.bytesWorld w 5 t = W1 at B1 ⊢
        go_wp2_with (first
          | (go_at_call 57; refine (isNumber_c _ _).mono ?_; rintro e w' ⟨rfl, rfl⟩; rw [hn])
          | (go_at_call 58; refine (iFormatNumber_c _ _ (HT.out.below B1 hlt) (by omega) (by omega)).mono ?_; rintro e W2 ⟨rfl, b2⟩))
        go_ret2
        exact ⟨by rw [HM.out.1, HM.out.2]; rfl, below_then B1 b2⟩
end Go.Proofs.YtabbgabdbkbjcaaDoor
