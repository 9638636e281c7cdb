/- Contracts of the laws' own helpers: cells. -/
import Derived.Test.YtabbgabdbkbjcaaDoorMem
import Derived.Deep.QuietTactic
import Derived.BigQuiet
import Derived.RegionTactic
import Derived.StillTailTactics
namespace Go.Proofs.YtabbgabdbkbjcaaDoor
open Go.ChangeShapes Go.WideShapes Go.ChangeAt Go.RowKit
set_option maxRecDepth 100000
theorem eqCell_c (k k' : ByteArray) (v : Int) (w : World) (hk : k.toList = k'.toList) :
    Calls Tryd.prog 46 #[.agg #[.string k, .int .i64 v], .agg #[.string k', .int .i64 v]] w fun e w' => e = .returned (.bool true) ∧ Below w.heap.size w w' := by
  have hk' : (k.toList == k'.toList) = true := by simp [hk]
  clear hk
  go_enter Tryd.func46, Tryd.ntmps46
  go_wp2
  go_ret
  exact ⟨rfl, below_alloc (below_alloc (Below.refl _ _) _) _⟩
set_option maxRecDepth 100000 in
theorem eqCellS_c (a b : Value) (l m : List Pu.CellD) (hlm : l.map (fun c => (c.key.toList, c.val)) = m.map (fun c => (c.key.toList, c.val))) (w : World) (ha : RdL w 2 cellEn a l) (hb : RdL w 2 cellEn b m) :
    Calls Tryd.prog 24 #[a, b] w fun e w' => e = .returned (.bool true) ∧ Below w.heap.size w w' := by
  have HL := hide (show m.length = l.length by simpa using congrArg List.length hlm.symm)
  have HM := hide hlm
  clear hlm
  obtain ⟨A, c, rfl, _, hcm, hA⟩ := ha.open_
  obtain ⟨B, d, rfl, _, hdm, hB⟩ := hb.open_
  have HA := hide hA
  have HB := hide hB
  clear hA hB ha hb
  have hln : l.length ≤ 9223372036854775807 := by omega
  rw [HL.out]
  go_enter Tryd.func24, Tryd.ntmps24
  go_wp2
  go_loopw [5] (fun i wr => ∃ k : Nat, k ≤ l.length ∧ i = .int .i64 k ∧ Below w.heap.size w wr) (fun i _ => l.length - (intOf i).toNat)
  case atStart => exact ⟨0, by omega, rfl, Below.refl _ _⟩
  case round =>
    obtain ⟨k, hk, rfl, hb⟩ := hrel
    by_cases hlt : k < l.length
    · obtain ⟨g, o, rfl, hg, HC⟩ := HA.out.at_ (by omega)
      obtain ⟨g', o', rfl, hg', HC'⟩ := HB.out.at_ (by rw [HL.out]; omega)
      obtain ⟨x, HX, h0, h1⟩ := cell_get HC hb hlt
      obtain ⟨y, HY, h2, h3⟩ := cell_get HC' hb (k := k) (by rw [HL.out]; exact hlt)
      have hE : x.key.toList = y.key.toList ∧ x.val = y.val := by
        have e1 := congrArg (·[k]?) HM.out
        simpa [HX.out, HY.out] using e1
      obtain ⟨hE1, hE2⟩ := hE
      rw [← hE2] at h3
      have HE := hide hE1
      clear hE1 hE2
      go_wp2_with fail
      go_still_tail 8, (by kernel_rfl)
      change wpList _ _ _ _ _ wr.drew
      go_wp2_with fail
      refine (eqCell_c _ _ _ _ HE.out).mono ?_; rintro e w1 ⟨rfl, hb1⟩
      go_wp2
      go_roundw
      case rel => exact ⟨k + 1, by omega, by go_num, below_then hb.drew hb1⟩
      case measure => simp [intOf]; omega
    · go_wp2
      go_ret
      exact ⟨rfl, hb⟩
theorem info_cell : (Tryd.prog.info? 62).map (fun i => (i.zero, i.size, i.bytes)) = some (some (.agg #[.string ByteArray.empty, .int .i64 0]), 2, 24) := by kernel_rfl
end Go.Proofs.YtabbgabdbkbjcaaDoor
