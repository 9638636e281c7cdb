/- Contracts: AbilityName, AbilityOf. -/
import Derived.Test.YtfmjcmhofjibmaaDoorAb
import Derived.Test.YtfmjcmhofjibmaaDoorMem
namespace Go.Proofs.YtfmjcmhofjibmaaDoor
open Go.ChangeShapes Go.WideShapes Go.ChangeAt Go.RowKit
set_option maxRecDepth 100000
def Pu.abName (k : Int) : List UInt8 := if k < 0 ∨ 6 ≤ k then [] else (Pu.abL[k.toNat]?).getD []
def Pu.abB : List ByteArray := Pu.abL.map fun l => ⟨l.toArray⟩
def Pu.ixFrom (s : List UInt8) : Nat → Nat → Int
  | _, 0 => -1
  | k, n + 1 => if ((Pu.abL[k]?).getD [] == s) then (k : Int) else Pu.ixFrom s (k + 1) n
def Pu.abIx (s : List UInt8) : Int := Pu.ixFrom s 0 6
theorem sNames_c (w : World) : Calls Tryd.prog 67 #[] w fun e w' => ∃ v, e = .returned v ∧ RdStr w' v Pu.abB ∧ Below w.heap.size w w' := by
  go_enter Tryd.func67, Tryd.ntmps67
  go_wp2
  go_ret
  exact ⟨_, rfl, rd_new (e := 9) _ rfl (by decide) (heap_new rfl), below_alloc (Below.refl _ _) _⟩
theorem sAbilityName_c (k : Int) (w : World) :
    Calls Tryd.prog 55 #[.int .i64 k] w fun e w' => (∃ s : ByteArray, s.toList = Pu.abName k ∧ s.size ≤ maxLen ∧ e = .returned (.string s)) ∧ Below w.heap.size w w' := by
  by_cases h0 : k < 0
  · go_enter Tryd.func55, Tryd.ntmps55
    go_wp2
    go_ret
    exact ⟨⟨_, by rw [Pu.abName, if_pos (.inl h0), Lib.toList_data], by decide, rfl⟩, Below.refl _ _⟩
  by_cases h6 : 6 ≤ k
  · go_enter Tryd.func55, Tryd.ntmps55
    go_wp2
    go_ret
    exact ⟨⟨_, by rw [Pu.abName, if_pos (.inr h6), Lib.toList_data], by decide, rfl⟩, Below.refl _ _⟩
  obtain ⟨n, rfl⟩ : ∃ n : Nat, k = n := ⟨k.toNat, by omega⟩
  have hn : n < 6 := by omega
  go_enter Tryd.func55, Tryd.ntmps55
  go_wp2_with fail
  refine (sNames_c _).mono ?_; rintro e w1 ⟨v, rfl, hv, hb1⟩
  obtain ⟨A, c, rfl, hlc, hcm, hA⟩ := hv.open_
  obtain ⟨g, o, rfl, hg, HC⟩ := hA.at_ (by decide)
  obtain ⟨x, HX, h0'⟩ := str_get HC (Below.refl _ _) (k := n) (by exact hn)
  have HS : Hid (x.toList = Pu.abName n ∧ x.size ≤ maxLen) := by
    rw [Hid, Pu.abName, if_neg (by omega), Int.toNat_natCast]
    have h := HX.out
    clear HX HC h0' hA hlc hcm hv hb1
    obtain rfl | rfl | rfl | rfl | rfl | rfl : n = 0 ∨ n = 1 ∨ n = 2 ∨ n = 3 ∨ n = 4 ∨ n = 5 := by omega
    all_goals
      simp only [Pu.abB, Pu.abL, List.map_cons, List.map_nil, List.getElem?_cons_zero, List.getElem?_cons_succ, Option.some.injEq] at h
      subst h
      exact ⟨by rw [Lib.toList_data]; rfl, by decide⟩
  have hl6 : Pu.abB.length = 6 := rfl
  rw [hl6]
  go_wp2
  go_ret
  exact ⟨⟨_, HS.out.1, HS.out.2, rfl⟩, hb1⟩
end Go.Proofs.YtfmjcmhofjibmaaDoor
