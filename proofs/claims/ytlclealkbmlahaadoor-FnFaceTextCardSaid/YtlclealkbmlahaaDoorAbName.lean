/- Contracts: AbilityName, AbilityOf. -/
import Derived.Test.YtlclealkbmlahaaDoorAb
import Derived.Test.YtlclealkbmlahaaDoorMem
namespace Go.Proofs.YtlclealkbmlahaaDoor
open Go.ChangeShapes Go.WideShapes Go.ChangeAt Go.RowKit
set_option maxRecDepth 100000
def Pu.abName (k : Int) : List UInt8 := if k < 0 ∨ 6 ≤ k then [] else (Pu.abL[k.toNat]?).getD []
def Pu.abB : List ByteArray := Pu.abL.map fun l => ⟨l.toArray⟩
def Pu.ixFrom (s : List UInt8) : Nat → Nat → Int
  | _, 0 => -1
  | k, n + 1 => if ((Pu.abL[k]?).getD [] == s) then (k : Int) else Pu.ixFrom s (k + 1) n
def Pu.abIx (s : List UInt8) : Int := Pu.ixFrom s 0 6
theorem iAbilityName_c (k : Int) (w : World) (hV : AbVars w) :
    Calls Tryd.prog 16 #[.int .i64 k] w fun e w' => (∃ s : ByteArray, s.toList = Pu.abName k ∧ s.size ≤ maxLen ∧ e = .returned (.string s)) ∧ w = w' := by
  by_cases h0 : k < 0
  · go_enter Tryd.func16, Tryd.ntmps16
    go_wp2
    go_ret
    exact ⟨⟨_, by rw [Pu.abName, if_pos (.inl h0), Lib.toList_data], by decide, rfl⟩, rfl⟩
  by_cases h6 : 6 ≤ k
  · go_enter Tryd.func16, Tryd.ntmps16
    go_wp2
    go_ret
    exact ⟨⟨_, by rw [Pu.abName, if_pos (.inr h6), Lib.toList_data], by decide, rfl⟩, rfl⟩
  obtain ⟨n, rfl⟩ : ∃ n : Nat, k = n := ⟨k.toNat, by omega⟩
  have hn : n < 6 := by omega
  obtain ⟨s, hs, hz, hc⟩ := hV n (Pu.abL[n]'(by exact hn)) (List.getElem?_eq_getElem _)
  have HS : Hid (s.toList = Pu.abName n) := by
    rw [Hid, Pu.abName, if_neg (by omega), Int.toNat_natCast, List.getElem?_eq_getElem (by exact hn), hs]; rfl
  clear hs
  go_enter Tryd.func16, Tryd.ntmps16
  go_wp2
  go_ret
  exact ⟨⟨_, HS.out, hz, rfl⟩, rfl⟩
theorem iAbilityOf_c (s : ByteArray) (w : World) (hV : AbVars w) :
    Calls Tryd.prog 17 #[.string s] w fun e w' => e = .returned (.int .i64 (Pu.abIx s.toList)) ∧ w = w' := by
  have HV := hide hV
  obtain ⟨s0, t0, _, c0⟩ := hV 0 _ rfl
  obtain ⟨s1, t1, _, c1⟩ := hV 1 _ rfl
  obtain ⟨s2, t2, _, c2⟩ := hV 2 _ rfl
  obtain ⟨s3, t3, _, c3⟩ := hV 3 _ rfl
  obtain ⟨s4, t4, _, c4⟩ := hV 4 _ rfl
  obtain ⟨s5, t5, _, c5⟩ := hV 5 _ rfl
  clear hV
  have i0 : ∀ (x0 x1 x2 x3 x4 x5 : Value) (w : World), (Instr.index 35 (.agg #[x0, x1, x2, x3, x4, x5]) (.int .i64 0)).run Tryd.prog w = .ok x0 w := fun _ _ _ _ _ _ _ => by kernel_rfl
  have i1 : ∀ (x0 x1 x2 x3 x4 x5 : Value) (w : World), (Instr.index 35 (.agg #[x0, x1, x2, x3, x4, x5]) (.int .i64 1)).run Tryd.prog w = .ok x1 w := fun _ _ _ _ _ _ _ => by kernel_rfl
  have i2 : ∀ (x0 x1 x2 x3 x4 x5 : Value) (w : World), (Instr.index 35 (.agg #[x0, x1, x2, x3, x4, x5]) (.int .i64 2)).run Tryd.prog w = .ok x2 w := fun _ _ _ _ _ _ _ => by kernel_rfl
  have i3 : ∀ (x0 x1 x2 x3 x4 x5 : Value) (w : World), (Instr.index 35 (.agg #[x0, x1, x2, x3, x4, x5]) (.int .i64 3)).run Tryd.prog w = .ok x3 w := fun _ _ _ _ _ _ _ => by kernel_rfl
  have i4 : ∀ (x0 x1 x2 x3 x4 x5 : Value) (w : World), (Instr.index 35 (.agg #[x0, x1, x2, x3, x4, x5]) (.int .i64 4)).run Tryd.prog w = .ok x4 w := fun _ _ _ _ _ _ _ => by kernel_rfl
  have i5 : ∀ (x0 x1 x2 x3 x4 x5 : Value) (w : World), (Instr.index 35 (.agg #[x0, x1, x2, x3, x4, x5]) (.int .i64 5)).run Tryd.prog w = .ok x5 w := fun _ _ _ _ _ _ _ => by kernel_rfl
  have hst : ∀ k, k < 6 → Hid (Pu.ixFrom s.toList k (6 - k) = if ((Pu.abL[k]?).getD [] == s.toList) then (k : Int) else Pu.ixFrom s.toList (k + 1) (6 - (k + 1))) := fun k hk => by
    rw [Hid, show 6 - k = (6 - (k + 1)) + 1 by omega, Pu.ixFrom]
  have HST := hide hst
  clear hst
  go_enter Tryd.func17, Tryd.ntmps17
  go_wp2
  go_loopw [6] (fun i wr => ∃ k : Nat, k ≤ 6 ∧ i = .int .i64 k ∧ Hid (Pu.abIx s.toList = Pu.ixFrom s.toList k (6 - k)) ∧ w = wr) (fun i _ => 6 - (intOf i).toNat)
  case atStart => exact ⟨0, by omega, rfl, rfl, rfl⟩
  case round =>
    obtain ⟨k, hk, rfl, HB, rfl⟩ := hrel
    obtain hk6 | rfl : k < 6 ∨ k = 6 := by omega
    · have HD := HST.out k hk6
      rcases hq : ((Pu.abL[k]?).getD [] == s.toList)
      all_goals
        have HQ := hide hq
        obtain rfl | rfl | rfl | rfl | rfl | rfl : k = 0 ∨ k = 1 ∨ k = 2 ∨ k = 3 ∨ k = 4 ∨ k = 5 := by omega
      all_goals
        simp only [Pu.abL, List.getElem?_cons_zero, List.getElem?_cons_succ, Option.getD_some] at hq
        first | rw [← t0] at hq | rw [← t1] at hq | rw [← t2] at hq | rw [← t3] at hq | rw [← t4] at hq | rw [← t5] at hq
        clear t0 t1 t2 t3 t4 t5
        go_wp2
        first
          | (go_roundw
             case rel => first | exact ⟨1, by decide, rfl, by rw [Hid, HB.out, HD.out, if_neg (by rw [HQ.out]; decide)], trivial⟩ | exact ⟨2, by decide, rfl, by rw [Hid, HB.out, HD.out, if_neg (by rw [HQ.out]; decide)], trivial⟩ | exact ⟨3, by decide, rfl, by rw [Hid, HB.out, HD.out, if_neg (by rw [HQ.out]; decide)], trivial⟩ | exact ⟨4, by decide, rfl, by rw [Hid, HB.out, HD.out, if_neg (by rw [HQ.out]; decide)], trivial⟩ | exact ⟨5, by decide, rfl, by rw [Hid, HB.out, HD.out, if_neg (by rw [HQ.out]; decide)], trivial⟩ | exact ⟨6, by decide, rfl, by rw [Hid, HB.out, HD.out, if_neg (by rw [HQ.out]; decide)], trivial⟩
             case measure => simp [intOf])
          | (go_ret
             exact ⟨ret_int (by rw [HB.out, HD.out, if_pos HQ.out]), rfl⟩)
    · go_wp2
      go_ret
      exact ⟨ret_int (by rw [HB.out]; rfl), rfl⟩
theorem sNames_c (w : World) : Calls Tryd.prog 29 #[] w fun e w' => ∃ v, e = .returned v ∧ RdStr w' v Pu.abB ∧ Below w.heap.size w w' := by
  go_enter Tryd.func29, Tryd.ntmps29
  go_wp2
  go_ret
  exact ⟨_, rfl, rd_new (e := 9) _ rfl (by decide) (heap_new rfl), below_alloc (Below.refl _ _) _⟩
theorem sAbilityName_c (k : Int) (w : World) :
    Calls Tryd.prog 19 #[.int .i64 k] w fun e w' => (∃ s : ByteArray, s.toList = Pu.abName k ∧ s.size ≤ maxLen ∧ e = .returned (.string s)) ∧ Below w.heap.size w w' := by
  by_cases h0 : k < 0
  · go_enter Tryd.func19, Tryd.ntmps19
    go_wp2
    go_ret
    exact ⟨⟨_, by rw [Pu.abName, if_pos (.inl h0), Lib.toList_data], by decide, rfl⟩, Below.refl _ _⟩
  by_cases h6 : 6 ≤ k
  · go_enter Tryd.func19, Tryd.ntmps19
    go_wp2
    go_ret
    exact ⟨⟨_, by rw [Pu.abName, if_pos (.inr h6), Lib.toList_data], by decide, rfl⟩, Below.refl _ _⟩
  obtain ⟨n, rfl⟩ : ∃ n : Nat, k = n := ⟨k.toNat, by omega⟩
  have hn : n < 6 := by omega
  go_enter Tryd.func19, Tryd.ntmps19
  go_wp2_with fail
  refine (sNames_c _).mono ?_; rintro e w1 ⟨v, rfl, hv, hb1⟩
  obtain ⟨A, c, rfl, hlc, hcm, hA⟩ := hv.open_
  obtain ⟨g, o, rfl, hg, HC⟩ := hA.at_ (by decide)
  obtain ⟨x, HX, h0'⟩ := str_get HC (Below.refl _ _) (k := n) (by exact hn)
  have HS : Hid (x.toList = Pu.abName n ∧ x.size ≤ maxLen) := by
    rw [Hid, Pu.abName, if_neg (by omega), Int.toNat_natCast]
    have h := HX.out
    clear HX HC h0' hA hlc hcm hv hb1
    obtain rfl | rfl | rfl | rfl | rfl | rfl : n = 0 ∨ n = 1 ∨ n = 2 ∨ n = 3 ∨ n = 4 ∨ n = 5 := by omega
    all_goals
      simp only [Pu.abB, Pu.abL, List.map_cons, List.map_nil, List.getElem?_cons_zero, List.getElem?_cons_succ, Option.some.injEq] at h
      subst h
      exact ⟨by rw [Lib.toList_data]; rfl, by decide⟩
  have hl6 : Pu.abB.length = 6 := rfl
  rw [hl6]
  go_wp2
  go_ret
  exact ⟨⟨_, HS.out.1, HS.out.2, rfl⟩, hb1⟩
end Go.Proofs.YtlclealkbmlahaaDoor
