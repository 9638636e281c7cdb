/- Contracts: faces read from texts. -/
import Derived.Test.YtlclealkbmlahaaDoorFaceText
namespace Go.Proofs.YtlclealkbmlahaaDoor
open Go.ChangeShapes Go.WideShapes Go.ChangeAt Go.RowKit
set_option maxRecDepth 100000
/-- the first face from k on, of n, that is written so -/
def Pu.pfFrom (s : ByteArray) : Nat → Nat → Int × Bool
  | _, 0 => (0, false)
  | k, n + 1 => if (Pu.faceT k).toList == s.toList then ((k : Int), true) else Pu.pfFrom s (k + 1) n
def Pu.pf (s : ByteArray) : Int × Bool := Pu.pfFrom s 0 64
theorem Pu.pf_step (s : ByteArray) {k : Nat} (hk : k < 64) : Pu.pfFrom s k (64 - k) = if (Pu.faceT k).toList == s.toList then ((k : Int), true) else Pu.pfFrom s (k + 1) (64 - (k + 1)) := by
  rw [show 64 - k = (64 - (k + 1)) + 1 by omega, Pu.pfFrom]
theorem iParseFace_c (s : ByteArray) (w : World) (hV : AbVars w) :
    Calls Tryd.prog 9 #[.string s] w fun e w' => e = .returned (.tuple #[.int .i64 (Pu.pf s).1, .bool (Pu.pf s).2]) ∧ Below w.heap.size w w' := by
  have hlt0 := hV.lt
  have HV := hide hV
  clear hV
  go_enter Tryd.func9, Tryd.ntmps9
  go_wp2
  go_loopw [5] (fun i wr => ∃ k : Nat, k ≤ 64 ∧ i = .int .i64 k ∧ Hid (Pu.pf s = Pu.pfFrom s k (64 - k)) ∧ Below w.heap.size w wr) (fun i _ => 64 - (intOf i).toNat)
  case atStart => exact ⟨0, by omega, rfl, rfl, Below.refl _ _⟩
  case round =>
    obtain ⟨k, hk, rfl, HB, hb⟩ := hrel
    by_cases hlt : k < 64
    · have HS := hide (Pu.pf_step s hlt)
      have hV := HV.out.below hb hlt0
      rcases hq : ((Pu.faceT k).toList == s.toList) with _ | _
      · go_wp2_with (go_at_call 7; refine (iFormatFace_c _ _ hV).mono ?_; rintro e w1 ⟨rfl, b1⟩)
        go_roundw
        case rel => exact ⟨k + 1, by omega, by go_num, by rw [Hid, HB.out, HS.out, if_neg (by rw [hq]; exact Bool.noConfusion)], below_then hb b1⟩
        case measure => simp [intOf]; omega
      · go_wp2_with (go_at_call 7; refine (iFormatFace_c _ _ hV).mono ?_; rintro e w1 ⟨rfl, b1⟩)
        go_ret2
        have e1 : Pu.pf s = ((k : Int), true) := by rw [HB.out, HS.out, if_pos hq]
        exact ⟨by rw [e1]; rfl, below_then hb b1⟩
    · obtain rfl : k = 64 := by omega
      go_wp2
      go_ret2
      have e1 : Pu.pf s = (0, false) := HB.out
      exact ⟨by rw [e1]; rfl, hb⟩
theorem sParseFace_c (s : ByteArray) (w : World) :
    Calls Tryd.prog 8 #[.string s] w fun e w' => e = .returned (.tuple #[.int .i64 (Pu.pf s).1, .bool (Pu.pf s).2]) ∧ Below w.heap.size w w' := by
  go_enter Tryd.func8, Tryd.ntmps8
  go_wp2
  go_loopw [4] (fun i wr => ∃ k : Nat, k ≤ 64 ∧ i = .int .i64 k ∧ Hid (Pu.pf s = Pu.pfFrom s k (64 - k)) ∧ Below w.heap.size w wr) (fun i _ => 64 - (intOf i).toNat)
  case atStart => exact ⟨0, by omega, rfl, rfl, Below.refl _ _⟩
  case round =>
    obtain ⟨k, hk, rfl, HB, hb⟩ := hrel
    by_cases hlt : k < 64
    · have HS := hide (Pu.pf_step s hlt)
      rcases hq : ((Pu.faceT k).toList == s.toList) with _ | _
      · go_wp2_with (go_at_call 6; refine (sFormatFace_c _ _).mono ?_; rintro e w1 ⟨rfl, b1⟩)
        go_roundw
        case rel => exact ⟨k + 1, by omega, by go_num, by rw [Hid, HB.out, HS.out, if_neg (by rw [hq]; exact Bool.noConfusion)], below_then hb b1⟩
        case measure => simp [intOf]; omega
      · go_wp2_with (go_at_call 6; refine (sFormatFace_c _ _).mono ?_; rintro e w1 ⟨rfl, b1⟩)
        go_ret2
        have e1 : Pu.pf s = ((k : Int), true) := by rw [HB.out, HS.out, if_pos hq]
        exact ⟨by rw [e1]; rfl, below_then hb b1⟩
    · obtain rfl : k = 64 := by omega
      go_wp2
      go_ret2
      have e1 : Pu.pf s = (0, false) := HB.out
      exact ⟨by rw [e1]; rfl, hb⟩
end Go.Proofs.YtlclealkbmlahaaDoor
