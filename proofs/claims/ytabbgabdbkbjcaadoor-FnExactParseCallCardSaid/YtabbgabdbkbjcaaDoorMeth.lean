/- Contracts: abilities and their methods. -/
import Derived.Test.YtabbgabdbkbjcaaDoorMem
import Derived.Deep.QuietTactic
import Derived.BigQuiet
namespace Go.Proofs.YtabbgabdbkbjcaaDoor
open Go.ChangeShapes Go.WideShapes Go.ChangeAt Go.RowKit
set_option maxRecDepth 100000
theorem or_pow : ∀ k : Nat, k < 6 → ∀ n : Nat, n < 64 → n < 2 ^ k → bits .or .i64 (n : Int) ((2 : Int) ^ k) = (n : Int) + 2 ^ k := by decide +kernel
theorem iHasText_c (v : Value) (l : List ByteArray) (s : ByteArray) (w : World) (hv : RdStr w v l) :
    Calls Tryd.prog 74 #[v, .string s] w fun e w' => e = .returned (.bool (Pu.hasT l s.toList)) ∧ Below w.heap.size w w' := by
  obtain ⟨A, c, rfl, hlc, hcm, hA⟩ := hv.open_
  have HA := hide hA
  clear hA hv
  go_enter Tryd.func74, Tryd.ntmps74
  go_wp2
  go_loopw [9] (fun i wr => ∃ k : Nat, k ≤ l.length ∧ i = .int .i64 k ∧ Hid (Pu.hasT l s.toList = Pu.hasT (l.drop k) s.toList) ∧ Below w.heap.size w wr) (fun i _ => l.length - (intOf i).toNat)
  case atStart => exact ⟨0, by omega, rfl, rfl, Below.refl _ _⟩
  case round =>
    obtain ⟨k, hk, rfl, HB, hb⟩ := hrel
    by_cases hlt : k < l.length
    · obtain ⟨g, o, rfl, hg, HC⟩ := HA.out.at_ (by omega)
      obtain ⟨x, HX, h0⟩ := str_get HC hb hlt
      have HD := hide (dropL HX)
      rcases hq : (x.toList == s.toList) with _ | _
      · go_wp2
        go_roundw
        case rel => exact ⟨k + 1, by omega, by go_num, by rw [Hid, HB.out, HD.out, Pu.hasT, if_neg (by simp [hq])], hb⟩
        case measure => simp [intOf]; omega
      · go_wp2
        go_ret
        exact ⟨ret_bool (by rw [HB.out, HD.out, Pu.hasT, if_pos hq]), hb⟩
    · have HE := hide (dropEnd (l := l) (k := k) (by omega))
      go_wp2
      go_ret
      exact ⟨ret_bool (by rw [HB.out, HE.out, Pu.hasT]), hb⟩
theorem sHasText_c (v : Value) (l : List ByteArray) (s : ByteArray) (w : World) (hv : RdStr w v l) :
    Calls Tryd.prog 111 #[v, .string s] w fun e w' => e = .returned (.bool (Pu.hasT l s.toList)) ∧ Below w.heap.size w w' := by
  obtain ⟨A, c, rfl, hlc, hcm, hA⟩ := hv.open_
  have HA := hide hA
  clear hA hv
  go_enter Tryd.func111, Tryd.ntmps111
  go_wp2
  go_loopw [9] (fun i wr => ∃ k : Nat, k ≤ l.length ∧ i = .int .i64 k ∧ Hid (Pu.hasT l s.toList = Pu.hasT (l.drop k) s.toList) ∧ Below w.heap.size w wr) (fun i _ => l.length - (intOf i).toNat)
  case atStart => exact ⟨0, by omega, rfl, rfl, Below.refl _ _⟩
  case round =>
    obtain ⟨k, hk, rfl, HB, hb⟩ := hrel
    by_cases hlt : k < l.length
    · obtain ⟨g, o, rfl, hg, HC⟩ := HA.out.at_ (by omega)
      obtain ⟨x, HX, h0⟩ := str_get HC hb hlt
      have HD := hide (dropL HX)
      rcases hq : (x.toList == s.toList) with _ | _
      · go_wp2
        go_roundw
        case rel => exact ⟨k + 1, by omega, by go_num, by rw [Hid, HB.out, HD.out, Pu.hasT, if_neg (by simp [hq])], hb⟩
        case measure => simp [intOf]; omega
      · go_wp2
        go_ret
        exact ⟨ret_bool (by rw [HB.out, HD.out, Pu.hasT, if_pos hq]), hb⟩
    · have HE := hide (dropEnd (l := l) (k := k) (by omega))
      go_wp2
      go_ret
      exact ⟨ret_bool (by rw [HB.out, HE.out, Pu.hasT]), hb⟩
set_option maxRecDepth 100000 in
set_option maxHeartbeats 2000000 in
theorem iMethodsOf_c (k : Nat) (w : World) (hk : k < 6) :
    Calls Tryd.prog 75 #[.int .i64 k] w fun e w' => ∃ v, e = .returned v ∧ RdStr w' v (Pu.methB k) ∧ Below w.heap.size w w' := by
  obtain rfl | rfl | rfl | rfl | rfl | rfl : k = 0 ∨ k = 1 ∨ k = 2 ∨ k = 3 ∨ k = 4 ∨ k = 5 := by omega
  all_goals
    have i0 : ∀ (x0 x1 x2 x3 x4 x5 : Value) (w : World), (Instr.index 113 (.agg #[x0, x1, x2, x3, x4, x5]) (.int .i64 0)).run Tryd.prog w = .ok x0 w := fun _ _ _ _ _ _ _ => by kernel_rfl
    have i1 : ∀ (x0 x1 x2 x3 x4 x5 : Value) (w : World), (Instr.index 113 (.agg #[x0, x1, x2, x3, x4, x5]) (.int .i64 1)).run Tryd.prog w = .ok x1 w := fun _ _ _ _ _ _ _ => by kernel_rfl
    have i2 : ∀ (x0 x1 x2 x3 x4 x5 : Value) (w : World), (Instr.index 113 (.agg #[x0, x1, x2, x3, x4, x5]) (.int .i64 2)).run Tryd.prog w = .ok x2 w := fun _ _ _ _ _ _ _ => by kernel_rfl
    have i3 : ∀ (x0 x1 x2 x3 x4 x5 : Value) (w : World), (Instr.index 113 (.agg #[x0, x1, x2, x3, x4, x5]) (.int .i64 3)).run Tryd.prog w = .ok x3 w := fun _ _ _ _ _ _ _ => by kernel_rfl
    have i4 : ∀ (x0 x1 x2 x3 x4 x5 : Value) (w : World), (Instr.index 113 (.agg #[x0, x1, x2, x3, x4, x5]) (.int .i64 4)).run Tryd.prog w = .ok x4 w := fun _ _ _ _ _ _ _ => by kernel_rfl
    have i5 : ∀ (x0 x1 x2 x3 x4 x5 : Value) (w : World), (Instr.index 113 (.agg #[x0, x1, x2, x3, x4, x5]) (.int .i64 5)).run Tryd.prog w = .ok x5 w := fun _ _ _ _ _ _ _ => by kernel_rfl
    go_enter Tryd.func75, Tryd.ntmps75
    go_wp2
    go_ret
    refine ⟨_, rfl, rd_new (e := 9) _ rfl (by decide) ?_, below_alloc (below_alloc (below_alloc (below_alloc (below_alloc (below_alloc (Below.refl _ _) _) _) _) _) _) _⟩
    repeat' (first | exact heap_new (by simp) | refine heap_old (by simp; try omega) ?_)
theorem sMethods_c (k : Nat) (w : World) (hk : k < 6) :
    Calls Tryd.prog 112 #[.int .i64 k] w fun e w' => ∃ v, e = .returned v ∧ RdStr w' v (Pu.methB k) ∧ Below w.heap.size w w' := by
  obtain rfl | rfl | rfl | rfl | rfl | rfl : k = 0 ∨ k = 1 ∨ k = 2 ∨ k = 3 ∨ k = 4 ∨ k = 5 := by omega
  all_goals
    go_enter Tryd.func112, Tryd.ntmps112
    go_wp2
    go_ret
    refine ⟨_, rfl, rd_new (e := 9) _ rfl (by decide) ?_, below_alloc (Below.refl _ _) _⟩
    exact heap_new rfl
theorem iAbilityOfMethod_c (s : ByteArray) (w : World) :
    Calls Tryd.prog 59 #[.string s] w fun e w' => e = .returned (.int .i64 (Pu.abOf s.toList)) ∧ Below w.heap.size w w' := by
  go_enter Tryd.func59, Tryd.ntmps59
  go_wp2
  go_loopw [4] (fun i wr => ∃ k : Nat, k ≤ 6 ∧ i = .int .i64 k ∧ Hid (Pu.abOf s.toList = Pu.abFrom s.toList k (6 - k)) ∧ Below w.heap.size w wr) (fun i _ => 6 - (intOf i).toNat)
  case atStart => exact ⟨0, by omega, rfl, rfl, Below.refl _ _⟩
  case round =>
    obtain ⟨k, hk, rfl, HB, hb⟩ := hrel
    by_cases hlt : k < 6
    · have HD : Hid (Pu.abFrom s.toList k (6 - k) = if Pu.hasT (Pu.methB k) s.toList then (k : Int) else Pu.abFrom s.toList (k + 1) (6 - (k + 1))) := by
        rw [Hid, show 6 - k = (6 - (k + 1)) + 1 by omega, Pu.abFrom]
      rcases hq : Pu.hasT (Pu.methB k) s.toList with _ | _
      · go_wp2_with fail
        refine (iMethodsOf_c k wr hlt).mono ?_; rintro e w1 ⟨v, rfl, hv, hb1⟩
        go_wp2_with fail
        refine (iHasText_c _ _ _ _ hv).mono ?_; rintro e w2 ⟨rfl, hb2⟩
        go_wp2
        go_roundw
        case rel => exact ⟨k + 1, by omega, by go_num, by rw [Hid, HB.out, HD.out, if_neg (by simp [hq])], below_then (below_then hb hb1) hb2⟩
        case measure => simp [intOf]; omega
      · go_wp2_with fail
        refine (iMethodsOf_c k wr hlt).mono ?_; rintro e w1 ⟨v, rfl, hv, hb1⟩
        go_wp2_with fail
        refine (iHasText_c _ _ _ _ hv).mono ?_; rintro e w2 ⟨rfl, hb2⟩
        go_wp2
        go_ret
        exact ⟨ret_int (by rw [HB.out, HD.out, if_pos hq]), below_then (below_then hb hb1) hb2⟩
    · obtain rfl : k = 6 := by omega
      go_wp2
      go_ret
      exact ⟨ret_int HB.out.symm, hb⟩
theorem sAbilityOfMethod_c (s : ByteArray) (w : World) :
    Calls Tryd.prog 93 #[.string s] w fun e w' => e = .returned (.int .i64 (Pu.abOf s.toList)) ∧ Below w.heap.size w w' := by
  go_enter Tryd.func93, Tryd.ntmps93
  go_wp2
  go_loopw [3] (fun i wr => ∃ k : Nat, k ≤ 6 ∧ i = .int .i64 k ∧ Hid (Pu.abOf s.toList = Pu.abFrom s.toList k (6 - k)) ∧ Below w.heap.size w wr) (fun i _ => 6 - (intOf i).toNat)
  case atStart => exact ⟨0, by omega, rfl, rfl, Below.refl _ _⟩
  case round =>
    obtain ⟨k, hk, rfl, HB, hb⟩ := hrel
    by_cases hlt : k < 6
    · have HD : Hid (Pu.abFrom s.toList k (6 - k) = if Pu.hasT (Pu.methB k) s.toList then (k : Int) else Pu.abFrom s.toList (k + 1) (6 - (k + 1))) := by
        rw [Hid, show 6 - k = (6 - (k + 1)) + 1 by omega, Pu.abFrom]
      rcases hq : Pu.hasT (Pu.methB k) s.toList with _ | _
      · go_wp2_with fail
        refine (sMethods_c k wr hlt).mono ?_; rintro e w1 ⟨v, rfl, hv, hb1⟩
        go_wp2_with fail
        refine (sHasText_c _ _ _ _ hv).mono ?_; rintro e w2 ⟨rfl, hb2⟩
        go_wp2
        go_roundw
        case rel => exact ⟨k + 1, by omega, by go_num, by rw [Hid, HB.out, HD.out, if_neg (by simp [hq])], below_then (below_then hb hb1) hb2⟩
        case measure => simp [intOf]; omega
      · go_wp2_with fail
        refine (sMethods_c k wr hlt).mono ?_; rintro e w1 ⟨v, rfl, hv, hb1⟩
        go_wp2_with fail
        refine (sHasText_c _ _ _ _ hv).mono ?_; rintro e w2 ⟨rfl, hb2⟩
        go_wp2
        go_ret
        exact ⟨ret_int (by rw [HB.out, HD.out, if_pos hq]), below_then (below_then hb hb1) hb2⟩
    · obtain rfl : k = 6 := by omega
      go_wp2
      go_ret
      exact ⟨ret_int HB.out.symm, hb⟩
theorem sWantOf_c (s : ByteArray) (w : World) :
    Calls Tryd.prog 69 #[.string s] w fun e w' => e = .returned (.int .i64 (Pu.wantF s.toList)) ∧ Below w.heap.size w w' := by
  obtain ⟨h0, h1⟩ := Pu.abOf_bd s.toList
  by_cases hq : Pu.abOf s.toList < 0
  · go_enter Tryd.func69, Tryd.ntmps69
    go_wp2_with fail
    refine (sAbilityOfMethod_c _ _).mono ?_; rintro e w1 ⟨rfl, hb1⟩
    go_wp2
    go_ret
    exact ⟨ret_int (by rw [Pu.wantF, if_pos hq]), hb1⟩
  · obtain ⟨hp0, hp⟩ := Pu.two_bd (k := (Pu.abOf s.toList).toNat) (by omega)
    go_enter Tryd.func69, Tryd.ntmps69
    go_wp2_with fail
    refine (sAbilityOfMethod_c _ _).mono ?_; rintro e w1 ⟨rfl, hb1⟩
    go_wp2
    go_ret
    exact ⟨ret_int (by rw [Pu.wantF, if_neg (by omega)]), hb1⟩
end Go.Proofs.YtabbgabdbkbjcaaDoor
