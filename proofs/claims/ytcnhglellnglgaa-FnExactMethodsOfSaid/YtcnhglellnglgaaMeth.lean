/- Contracts: abilities and their methods. -/
import Derived.Test.YtcnhglellnglgaaMem
import Derived.Deep.QuietTactic
import Derived.BigQuiet
namespace Go.Proofs.Ytcnhglellnglgaa
open Go.ChangeShapes Go.WideShapes Go.ChangeAt Go.RowKit
set_option maxRecDepth 100000
theorem or_pow : ∀ k : Nat, k < 6 → ∀ n : Nat, n < 64 → n < 2 ^ k → bits .or .i64 (n : Int) ((2 : Int) ^ k) = (n : Int) + 2 ^ k := by decide +kernel
theorem iHasText_c (v : Value) (l : List ByteArray) (s : ByteArray) (w : World) (hv : RdStr w v l) :
    Calls Try.prog 34 #[v, .string s] w fun e w' => e = .returned (.bool (Pu.hasT l s.toList)) ∧ Below w.heap.size w w' := by
  obtain ⟨A, c, rfl, hlc, hcm, hA⟩ := hv.open_
  have HA := hide hA
  clear hA hv
  go_enter Try.func34, Try.ntmps34
  go_wp2
  go_loopw [9] (fun i wr => ∃ k : Nat, k ≤ l.length ∧ i = .int .i64 k ∧ Hid (Pu.hasT l s.toList = Pu.hasT (l.drop k) s.toList) ∧ Below w.heap.size w wr) (fun i _ => l.length - (intOf i).toNat)
  case atStart => exact ⟨0, by omega, rfl, rfl, Below.refl _ _⟩
  case round =>
    obtain ⟨k, hk, rfl, HB, hb⟩ := hrel
    by_cases hlt : k < l.length
    · obtain ⟨g, o, rfl, hg, HC⟩ := HA.out.at_ (by omega)
      obtain ⟨x, HX, h0⟩ := str_get HC hb hlt
      have HD := hide (dropL HX)
      rcases hq : (x.toList == s.toList) with _ | _
      · go_wp2
        go_roundw
        case rel => exact ⟨k + 1, by omega, by go_num, by rw [Hid, HB.out, HD.out, Pu.hasT, if_neg (by simp [hq])], hb⟩
        case measure => simp [intOf]; omega
      · go_wp2
        go_ret
        exact ⟨ret_bool (by rw [HB.out, HD.out, Pu.hasT, if_pos hq]), hb⟩
    · have HE := hide (dropEnd (l := l) (k := k) (by omega))
      go_wp2
      go_ret
      exact ⟨ret_bool (by rw [HB.out, HE.out, Pu.hasT]), hb⟩
set_option maxRecDepth 100000 in
set_option maxHeartbeats 2000000 in
theorem iMethodsOf_c (k : Nat) (w : World) (hk : k < 6) :
    Calls Try.prog 28 #[.int .i64 k] w fun e w' => ∃ v, e = .returned v ∧ RdStr w' v (Pu.methB k) ∧ Below w.heap.size w w' := by
  obtain rfl | rfl | rfl | rfl | rfl | rfl : k = 0 ∨ k = 1 ∨ k = 2 ∨ k = 3 ∨ k = 4 ∨ k = 5 := by omega
  all_goals
    have i0 : ∀ (x0 x1 x2 x3 x4 x5 : Value) (w : World), (Instr.index 45 (.agg #[x0, x1, x2, x3, x4, x5]) (.int .i64 0)).run Try.prog w = .ok x0 w := fun _ _ _ _ _ _ _ => by kernel_rfl
    have i1 : ∀ (x0 x1 x2 x3 x4 x5 : Value) (w : World), (Instr.index 45 (.agg #[x0, x1, x2, x3, x4, x5]) (.int .i64 1)).run Try.prog w = .ok x1 w := fun _ _ _ _ _ _ _ => by kernel_rfl
    have i2 : ∀ (x0 x1 x2 x3 x4 x5 : Value) (w : World), (Instr.index 45 (.agg #[x0, x1, x2, x3, x4, x5]) (.int .i64 2)).run Try.prog w = .ok x2 w := fun _ _ _ _ _ _ _ => by kernel_rfl
    have i3 : ∀ (x0 x1 x2 x3 x4 x5 : Value) (w : World), (Instr.index 45 (.agg #[x0, x1, x2, x3, x4, x5]) (.int .i64 3)).run Try.prog w = .ok x3 w := fun _ _ _ _ _ _ _ => by kernel_rfl
    have i4 : ∀ (x0 x1 x2 x3 x4 x5 : Value) (w : World), (Instr.index 45 (.agg #[x0, x1, x2, x3, x4, x5]) (.int .i64 4)).run Try.prog w = .ok x4 w := fun _ _ _ _ _ _ _ => by kernel_rfl
    have i5 : ∀ (x0 x1 x2 x3 x4 x5 : Value) (w : World), (Instr.index 45 (.agg #[x0, x1, x2, x3, x4, x5]) (.int .i64 5)).run Try.prog w = .ok x5 w := fun _ _ _ _ _ _ _ => by kernel_rfl
    go_enter Try.func28, Try.ntmps28
    go_wp2
    go_ret
    refine ⟨_, rfl, rd_new (e := 9) _ rfl (by decide) ?_, below_alloc (below_alloc (below_alloc (below_alloc (below_alloc (below_alloc (Below.refl _ _) _) _) _) _) _) _⟩
    repeat' (first | exact heap_new (by simp) | refine heap_old (by simp; try omega) ?_)
theorem sMethods_c (k : Nat) (w : World) (hk : k < 6) :
    Calls Try.prog 27 #[.int .i64 k] w fun e w' => ∃ v, e = .returned v ∧ RdStr w' v (Pu.methB k) ∧ Below w.heap.size w w' := by
  obtain rfl | rfl | rfl | rfl | rfl | rfl : k = 0 ∨ k = 1 ∨ k = 2 ∨ k = 3 ∨ k = 4 ∨ k = 5 := by omega
  all_goals
    go_enter Try.func27, Try.ntmps27
    go_wp2
    go_ret
    refine ⟨_, rfl, rd_new (e := 9) _ rfl (by decide) ?_, below_alloc (Below.refl _ _) _⟩
    exact heap_new rfl
theorem iAbilityOfMethod_c (s : ByteArray) (w : World) :
    Calls Try.prog 20 #[.string s] w fun e w' => e = .returned (.int .i64 (Pu.abOf s.toList)) ∧ Below w.heap.size w w' := by
  go_enter Try.func20, Try.ntmps20
  go_wp2
  go_loopw [4] (fun i wr => ∃ k : Nat, k ≤ 6 ∧ i = .int .i64 k ∧ Hid (Pu.abOf s.toList = Pu.abFrom s.toList k (6 - k)) ∧ Below w.heap.size w wr) (fun i _ => 6 - (intOf i).toNat)
  case atStart => exact ⟨0, by omega, rfl, rfl, Below.refl _ _⟩
  case round =>
    obtain ⟨k, hk, rfl, HB, hb⟩ := hrel
    by_cases hlt : k < 6
    · have HD : Hid (Pu.abFrom s.toList k (6 - k) = if Pu.hasT (Pu.methB k) s.toList then (k : Int) else Pu.abFrom s.toList (k + 1) (6 - (k + 1))) := by
        rw [Hid, show 6 - k = (6 - (k + 1)) + 1 by omega, Pu.abFrom]
      rcases hq : Pu.hasT (Pu.methB k) s.toList with _ | _
      · go_wp2_with fail
        refine (iMethodsOf_c k wr hlt).mono ?_; rintro e w1 ⟨v, rfl, hv, hb1⟩
        go_wp2_with fail
        refine (iHasText_c _ _ _ _ hv).mono ?_; rintro e w2 ⟨rfl, hb2⟩
        go_wp2
        go_roundw
        case rel => exact ⟨k + 1, by omega, by go_num, by rw [Hid, HB.out, HD.out, if_neg (by simp [hq])], below_then (below_then hb hb1) hb2⟩
        case measure => simp [intOf]; omega
      · go_wp2_with fail
        refine (iMethodsOf_c k wr hlt).mono ?_; rintro e w1 ⟨v, rfl, hv, hb1⟩
        go_wp2_with fail
        refine (iHasText_c _ _ _ _ hv).mono ?_; rintro e w2 ⟨rfl, hb2⟩
        go_wp2
        go_ret
        exact ⟨ret_int (by rw [HB.out, HD.out, if_pos hq]), below_then (below_then hb hb1) hb2⟩
    · obtain rfl : k = 6 := by omega
      go_wp2
      go_ret
      exact ⟨ret_int HB.out.symm, hb⟩
theorem iFaceOfMethods_c (v : Value) (l : List ByteArray) (w : World) (hv : RdStr w v l) :
    Calls Try.prog 22 #[v] w fun e w' => e = .returned (.int .i64 (Pu.faceOf l 6)) ∧ Below w.heap.size w w' := by
  go_enter Try.func22, Try.ntmps22
  go_wp2
  go_loopw [3, 8] (fun f i wr => ∃ k : Nat, k ≤ 6 ∧ i = .int .i64 k ∧ f = .int .i64 (Pu.faceOf l k : Nat) ∧ Below w.heap.size w wr) (fun _ i _ => 6 - (intOf i).toNat)
  case atStart => exact ⟨0, by omega, rfl, rfl, Below.refl _ _⟩
  case round =>
    obtain ⟨k, hk, rfl, rfl, hb⟩ := hrel
    by_cases hlt : k < 6
    · obtain ⟨hp0, hp⟩ := Pu.two_bd hlt
      have hfb := Pu.faceOf_bd l (k := k) (by omega)
      have hf0 : (0 : Int) ≤ (Pu.faceOf l k : Nat) := by omega
      go_wp2_with fail
      refine (iMethodsOf_c k wr hlt).mono ?_; rintro e w1 ⟨v1, rfl, hv1, hb1⟩
      obtain ⟨A, c, rfl, hlc, hcm, hA⟩ := RdL.open_ hv1
      have HA := hide hA
      clear hA hv1
      go_wp2_with fail
      have hbw := below_then hb hb1
      have hmm : (Pu.methB k).length ≤ 2 := by
        match k, hlt with
        | 0, _ | 1, _ | 2, _ | 3, _ | 4, _ | 5, _ => decide
      obtain ⟨ms, HM⟩ : ∃ ms, Hid (Pu.methB k = ms) := ⟨_, rfl⟩
      rw [HM.out] at HA hlc hmm ⊢
      go_loopw [5, 14] (fun b i wx => ∃ (j : Nat) (q : Bool), j ≤ ms.length ∧ i = .int .i64 j ∧ b = .bool q ∧ Hid (Pu.allIn l ms = (q && Pu.allIn l (ms.drop j))) ∧ Below w.heap.size w wx ∧ Below w1.heap.size w1 wx) (fun _ i _ => ms.length - (intOf i).toNat)
      case atStart => exact ⟨0, true, by omega, rfl, rfl, by simp [Hid], hbw, Below.refl _ _⟩
      case round =>
        obtain ⟨j, q, hj, rfl, rfl, HB, hbx, hbx1⟩ := hrel
        by_cases hjl : j < ms.length
        · obtain ⟨g, o, rfl, hg, HC⟩ := HA.out.at_ (by omega)
          obtain ⟨x, HX, h0⟩ := str_get HC hbx1 hjl
          have HD := hide (dropL HX)
          cases q
          · go_wp2
            go_roundw
            case rel => exact ⟨j + 1, false, by omega, by go_num, rfl, by rw [Hid, HB.out]; rfl, hbx, hbx1⟩
            case measure => simp [intOf]; omega
          · go_wp2_with fail
            refine (iHasText_c _ _ _ _ (RdL.below hv hbx (Nat.le_refl _))).mono ?_; rintro e w2 ⟨rfl, hb2⟩
            go_wp2
            go_roundw
            case rel => exact ⟨j + 1, _, by omega, by go_num, rfl, by rw [Hid, HB.out, HD.out, Pu.allIn, Bool.true_and], below_then hbx hb2, below_then hbx1 hb2⟩
            case measure => simp [intOf]; omega
        · have HE : Hid (Pu.allIn l (Pu.methB k) = q) := by rw [Hid, HM.out, HB.out, dropEnd (by omega), Pu.allIn, Bool.and_true]
          cases q
          · go_wp2
            go_roundw
            case rel => exact ⟨k + 1, by omega, by go_num, by rw [Pu.faceOf_step, HE.out]; simp, hbx⟩
            case measure => simp [intOf]; omega
          · go_wp2
            go_roundw
            case rel => exact ⟨k + 1, by omega, by go_num, by rw [Pu.faceOf_step, HE.out, or_pow k hlt _ (by omega) (Pu.faceOf_lt l k)]; simp, hbx⟩
            case measure => simp [intOf]; omega
    · obtain rfl : k = 6 := by omega
      go_wp2
      go_ret
      exact ⟨rfl, hb⟩
end Go.Proofs.Ytcnhglellnglgaa
