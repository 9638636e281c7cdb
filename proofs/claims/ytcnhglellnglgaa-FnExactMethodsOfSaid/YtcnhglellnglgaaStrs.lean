/- Contracts of the laws' own helpers: slices of strings. -/
import Derived.Test.YtcnhglellnglgaaMem
import Derived.Deep.QuietTactic
import Derived.BigQuiet
import Derived.Deep.AppendLies
namespace Go.Proofs.Ytcnhglellnglgaa
open Go.ChangeShapes Go.WideShapes Go.ChangeAt Go.RowKit
set_option maxRecDepth 100000
theorem eqStringS_c (a b : Value) (l m : List ByteArray) (hlm : l.map ByteArray.toList = m.map ByteArray.toList) (w : World) (ha : RdStr w a l) (hb : RdStr w b m) :
    Calls Try.prog 10 #[a, b] w fun e w' => e = .returned (.bool true) ∧ Below w.heap.size w w' := by
  have HL := hide (show m.length = l.length by simpa using congrArg List.length hlm.symm)
  have HM := hide hlm
  clear hlm
  obtain ⟨A, c, rfl, _, hcm, hA⟩ := ha.open_
  obtain ⟨B, d, rfl, _, hdm, hB⟩ := hb.open_
  have HA := hide hA
  have HB := hide hB
  clear hA hB ha hb
  have hln : l.length ≤ 9223372036854775807 := by omega
  rw [HL.out]
  go_enter Try.func10, Try.ntmps10
  go_wp2
  go_loopw [5] (fun i wr => ∃ k : Nat, k ≤ l.length ∧ i = .int .i64 k ∧ Below w.heap.size w wr) (fun i _ => l.length - (intOf i).toNat)
  case atStart => exact ⟨0, by omega, rfl, Below.refl _ _⟩
  case round =>
    obtain ⟨k, hk, rfl, hb⟩ := hrel
    by_cases hlt : k < l.length
    · obtain ⟨g, o, rfl, hg, HC⟩ := HA.out.at_ (by omega)
      obtain ⟨g', o', rfl, hg', HC'⟩ := HB.out.at_ (by rw [HL.out]; omega)
      obtain ⟨x, HX, h0⟩ := str_get HC hb hlt
      obtain ⟨y, HY, h1⟩ := str_get HC' hb (k := k) (by rw [HL.out]; exact hlt)
      have hxy : (x.toList == y.toList) = true := by
        have e1 := congrArg (·[k]?) HM.out
        simp only [List.getElem?_map, HX.out, HY.out, Option.map_some, Option.some.injEq] at e1
        rw [e1]; simp
      go_wp2_with fail
      go_quiet (fail)
      go_wp2
      go_roundw
      case rel => exact ⟨k + 1, by omega, by go_num, below_drewN hb _⟩
      case measure => simp [intOf]; omega
    · go_wp2
      go_ret
      exact ⟨rfl, hb⟩
theorem szStringS_c (v : Value) (l : List ByteArray) (left : Int) (w : World) (hv : RdStr w v l) (h0 : 0 ≤ left) (h1 : left ≤ 1048576) (hw : ∀ x ∈ l, x.size ≤ maxLen) :
    Calls Try.prog 6 #[v, .int .i64 left] w fun e w' => e = .returned (.int .i64 (Pu.szStr l left)) ∧ Below w.heap.size w w' := by
  obtain ⟨A, c, rfl, hlc, hcm, hA⟩ := hv.open_
  have HA := hide hA
  clear hA hv
  by_cases hll : (l.length : Int) ≤ left
  · have hll' : ¬ left - (l.length : Int) < 0 := by omega
    go_enter Try.func6, Try.ntmps6
    go_wp2
    go_loopw [1, 5] (fun lf i wr => ∃ k : Nat, k ≤ l.length ∧ i = .int .i64 k ∧ lf = .int .i64 (left - l.length - Pu.tot (l.take k)) ∧ (Pu.tot (l.take k) : Int) ≤ left - l.length ∧ Below w.heap.size w wr) (fun _ i _ => l.length - (intOf i).toNat)
    case atStart => exact ⟨0, by omega, rfl, by simp [Pu.tot], by simp [Pu.tot]; omega, Below.refl _ _⟩
    case round =>
      obtain ⟨k, hk, rfl, rfl, hle, hb⟩ := hrel
      by_cases hlt : k < l.length
      · obtain ⟨g, o, rfl, hg, HC⟩ := HA.out.at_ (by omega)
        obtain ⟨x, HX, h2⟩ := str_get HC hb hlt
        have hT := hide (Pu.tot_take_succ HX.out)
        have hxm := hw x (List.mem_of_getElem? HX.out)
        unfold maxLen at hxm
        have hge := Pu.tot_take_le l (k + 1)
        by_cases hq : left - l.length - Pu.tot (l.take k) - x.size < 0
        · go_wp2
          go_ret
          exact ⟨ret_int (by have := hT.out; rw [Pu.szStr, if_neg (by omega)]), hb⟩
        · go_wp2
          go_roundw
          case rel => exact ⟨k + 1, by omega, by go_num, by rw [hT.out]; go_num, by have := hT.out; omega, hb⟩
          case measure => simp [intOf]; omega
      · obtain rfl : k = l.length := by omega
        go_wp2
        go_ret
        rw [List.take_length] at hle ⊢
        exact ⟨ret_int (by rw [Pu.szStr, if_pos (by omega)]; omega), hb⟩
  · go_enter Try.func6, Try.ntmps6
    go_wp2
    go_ret
    exact ⟨ret_int (by rw [Pu.szStr, if_neg (by omega)]), Below.refl _ _⟩
theorem toStringS_c (v : Value) (l : List ByteArray) (w : World) (hv : RdStr w v l) (hl : l.length ≤ 1048576) :
    Calls Try.prog 8 #[v] w fun e w' => ∃ v', e = .returned v' ∧ OwnL w' w.heap.size 9 1 strEn v' l ∧ Below w.heap.size w w' := by
  obtain ⟨A, c, rfl, hlc, hcm, hA⟩ := hv.open_
  have HA := hide hA
  clear hA hv
  obtain ⟨i0, hi, hz0, hz1, hz2⟩ := info_parts info_str
  go_enter Try.func8, Try.ntmps8
  go_wp2_with (at_make; refine wpList_make_full _ rfl _ _ 22 rfl w.heap.size 9 i0 _ 1 Try.underlying22 hi hz0 hz1 .i64 .i64 _ _ l.length rfl rfl rfl rfl (by rw [hz2]; omega) (by unfold maxLen; omega) (Nat.le_refl _) ?_; intro w1 hown1 hg1)
  obtain ⟨Z, HZ⟩ : ∃ Z, Hid ((madeCells (Value.string ByteArray.empty).cells (l.length * 1)).toList = Z) := ⟨_, rfl⟩
  have hzl : Hid (Z.length = l.length) := by rw [← HZ.out, Hid]; have := hown1.1; simpa using this
  rw [HZ.out] at hown1
  have HP := hide (show (l.map Value.string).length = Z.length by rw [List.length_map]; exact hzl.out.symm)
  have hb1 : Below w.heap.size w w1 := (Below.refl _ _).grown hg1 (Nat.le_refl _) (fun k hk => by cases hk)
  have hs1 : w.heap.size < w1.heap.size := own_lt hown1
  go_loopw [4] (fun i wr => ∃ k : Nat, k ≤ l.length ∧ i = .int .i64 k ∧ wr.ownsRow w.heap.size 9 1 (.slice (some ⟨w.heap.size, 0, none⟩) l.length l.length) l.length ((l.map Value.string).take k ++ Z.drop k) ∧ Below w.heap.size w wr) (fun i _ => l.length - (intOf i).toNat)
  case atStart => exact ⟨0, by omega, rfl, by simpa using hown1, hb1⟩
  case round =>
    obtain ⟨k, hk, rfl, hown, hb⟩ := hrel
    by_cases hlt : k < l.length
    · obtain ⟨g, o, rfl, hg, HC⟩ := HA.out.at_ (by omega)
      obtain ⟨x, HX, h0⟩ := str_get HC hb hlt
      have hkz : k < Z.length := by rw [hzl.out]; exact hlt
      have hc : wr.cell? ⟨w.heap.size, k, none⟩ = some Z[k] := by
        rw [World.ownsRow.cellAt hown k (by omega), Pu.mid_at hkz HP.out]
      have hf := World.ownsRow.frozenAt hown k
      obtain ⟨hq1, hq2⟩ := World.ownsRow.stored hown k (.string x)
      rw [Pu.set_mid (by rw [List.getElem?_map, HX.out]; rfl) HP.out] at hq1
      go_wp2
      go_roundw
      case rel => exact ⟨k + 1, by omega, by go_num, hq1, hb.setCell (Nat.le_refl _) _⟩
      case measure => simp [intOf]; omega
    · obtain rfl : k = l.length := by omega
      go_wp2
      go_ret
      refine ⟨_, rfl, ?_, hb⟩
      unfold OwnL
      rw [flat_str]
      rw [List.take_of_length_le (by simp), dropEnd (by rw [hzl.out]; omega), List.append_nil] at hown
      exact hown
end Go.Proofs.Ytcnhglellnglgaa
