/- Contract of the laws' own helper: a text in a list. -/
import Derived.Test.YtabbgabdbkbjcaaDoorMem
import Derived.Deep.QuietTactic
import Derived.BigQuiet
namespace Go.Proofs.YtabbgabdbkbjcaaDoor
open Go.ChangeShapes Go.WideShapes Go.ChangeAt Go.RowKit
set_option maxRecDepth 100000
theorem has_c (v : Value) (l : List ByteArray) (s : ByteArray) (w : World) (hv : RdStr w v l) :
    Calls Tryd.prog 17 #[v, .string s] w fun e w' => e = .returned (.bool (Pu.hasT l s.toList)) ∧ Below w.heap.size w w' := by
  obtain ⟨A, c, rfl, hlc, hcm, hA⟩ := hv.open_
  have HA := hide hA
  clear hA hv
  go_enter Tryd.func17, Tryd.ntmps17
  go_wp2
  go_loopw [5] (fun i wr => ∃ k : Nat, k ≤ l.length ∧ i = .int .i64 k ∧ Hid (Pu.hasT l s.toList = Pu.hasT (l.drop k) s.toList) ∧ Below w.heap.size w wr) (fun i _ => l.length - (intOf i).toNat)
  case atStart => exact ⟨0, by omega, rfl, rfl, Below.refl _ _⟩
  case round =>
    obtain ⟨k, hk, rfl, HB, hb⟩ := hrel
    by_cases hlt : k < l.length
    · obtain ⟨g, o, rfl, hg, HC⟩ := HA.out.at_ (by omega)
      obtain ⟨x, HX, h0⟩ := str_get HC hb hlt
      have HD := hide (dropL HX)
      rcases hq : (x.toList == s.toList) with _ | _
      · go_wp2
        go_roundw
        case rel => exact ⟨k + 1, by omega, by go_num, by rw [Hid, HB.out, HD.out, Pu.hasT, if_neg (by simp [hq])], hb⟩
        case measure => simp [intOf]; omega
      · go_wp2
        go_ret
        exact ⟨ret_bool (by rw [HB.out, HD.out, Pu.hasT, if_pos hq]), hb⟩
    · have HE := hide (dropEnd (l := l) (k := k) (by omega))
      go_wp2
      go_ret
      exact ⟨ret_bool (by rw [HB.out, HE.out, Pu.hasT]), hb⟩
/-- a text that is there; the world is as it was -/
theorem has_q (v : Value) (l : List ByteArray) (s : ByteArray) (w : World) (hv : RdStr w v l) (hh : Pu.hasT l s.toList = true) :
    Calls Tryd.prog 17 #[v, .string s] w fun e w' => e = .returned (.bool true) ∧ w = w' := by
  have HH := hide hh
  clear hh
  obtain ⟨A, c, rfl, hlc, hcm, hA⟩ := hv.open_
  have HA := hide hA
  clear hA hv
  go_enter Tryd.func17, Tryd.ntmps17
  go_wp2
  go_loopw [5] (fun i wr => ∃ k : Nat, k ≤ l.length ∧ i = .int .i64 k ∧ Hid (Pu.hasT l s.toList = Pu.hasT (l.drop k) s.toList) ∧ w = wr) (fun i _ => l.length - (intOf i).toNat)
  case atStart => exact ⟨0, by omega, rfl, rfl, rfl⟩
  case round =>
    obtain ⟨k, hk, rfl, HB, rfl⟩ := hrel
    have hb : Below w.heap.size w w := Below.refl _ _
    by_cases hlt : k < l.length
    · obtain ⟨g, o, rfl, hg, HC⟩ := HA.out.at_ (by omega)
      obtain ⟨x, HX, h0⟩ := str_get HC hb hlt
      have HD := hide (dropL HX)
      rcases hq : (x.toList == s.toList) with _ | _
      · go_wp2
        go_roundw
        case rel => exact ⟨k + 1, by omega, by go_num, by rw [Hid, HB.out, HD.out, Pu.hasT, if_neg (by simp [hq])], trivial⟩
        case measure => simp [intOf]; omega
      · go_wp2
        go_ret
        exact ⟨rfl, rfl⟩
    · have HE := hide (dropEnd (l := l) (k := k) (by omega))
      go_wp2
      go_ret
      exact absurd (HB.out.symm.trans HH.out) (by rw [HE.out]; simp [Pu.hasT])
end Go.Proofs.YtabbgabdbkbjcaaDoor
