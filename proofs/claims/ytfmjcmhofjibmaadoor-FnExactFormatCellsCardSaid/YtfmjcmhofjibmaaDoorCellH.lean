/- Contracts of the laws' own helpers: cells. -/
import Derived.Test.YtfmjcmhofjibmaaDoorMem
import Derived.Deep.QuietTactic
import Derived.BigQuiet
import Derived.RegionTactic
import Derived.StillTailTactics
namespace Go.Proofs.YtfmjcmhofjibmaaDoor
open Go.ChangeShapes Go.WideShapes Go.ChangeAt Go.RowKit
set_option maxRecDepth 100000
theorem szCell_c (k : ByteArray) (v left : Int) (w : World) (h0 : 0 ≤ left) (h1 : left ≤ 1048576) (hk : k.size ≤ maxLen) :
    Calls Tryd.prog 34 #[.agg #[.string k, .int .i64 v], .int .i64 left] w fun e w' => e = .returned (.int .i64 (if (k.size : Int) ≤ left then left - k.size else -1)) ∧ Below w.heap.size w w' := by
  unfold maxLen at hk
  by_cases h : (k.size : Int) ≤ left
  · rw [if_pos h]
    go_enter Tryd.func34, Tryd.ntmps34
    go_wp2
    go_ret
    exact ⟨rfl, below_alloc (Below.refl _ _) _⟩
  · rw [if_neg h]
    go_enter Tryd.func34, Tryd.ntmps34
    go_wp2
    go_ret
    exact ⟨rfl, below_alloc (Below.refl _ _) _⟩
theorem toCell_c (k : ByteArray) (v : Int) (w : World) :
    Calls Tryd.prog 37 #[.agg #[.string k, .int .i64 v]] w fun e w' => e = .returned (.agg #[.string k, .int .i64 v]) ∧ Below w.heap.size w w' := by
  go_enter Tryd.func37, Tryd.ntmps37
  go_wp2
  exact bodyPost_ret (v := .agg #[.string k, .int .i64 v]) (by simp [results, Tryd.results37, go_sem]) rfl ⟨rfl, below_alloc (below_alloc (below_alloc (Below.refl _ _) _) _) _⟩
theorem eqCell_c (k k' : ByteArray) (v : Int) (w : World) (hk : k.toList = k'.toList) :
    Calls Tryd.prog 40 #[.agg #[.string k, .int .i64 v], .agg #[.string k', .int .i64 v]] w fun e w' => e = .returned (.bool true) ∧ Below w.heap.size w w' := by
  have hk' : (k.toList == k'.toList) = true := by simp [hk]
  clear hk
  go_enter Tryd.func40, Tryd.ntmps40
  go_wp2
  go_ret
  exact ⟨rfl, below_alloc (below_alloc (Below.refl _ _) _) _⟩
set_option maxRecDepth 100000 in
theorem eqCellS_c (a b : Value) (l m : List Pu.CellD) (hlm : l.map (fun c => (c.key.toList, c.val)) = m.map (fun c => (c.key.toList, c.val))) (w : World) (ha : RdL w 2 cellEn a l) (hb : RdL w 2 cellEn b m) :
    Calls Tryd.prog 23 #[a, b] w fun e w' => e = .returned (.bool true) ∧ Below w.heap.size w w' := by
  have HL := hide (show m.length = l.length by simpa using congrArg List.length hlm.symm)
  have HM := hide hlm
  clear hlm
  obtain ⟨A, c, rfl, _, hcm, hA⟩ := ha.open_
  obtain ⟨B, d, rfl, _, hdm, hB⟩ := hb.open_
  have HA := hide hA
  have HB := hide hB
  clear hA hB ha hb
  have hln : l.length ≤ 9223372036854775807 := by omega
  rw [HL.out]
  go_enter Tryd.func23, Tryd.ntmps23
  go_wp2
  go_loopw [5] (fun i wr => ∃ k : Nat, k ≤ l.length ∧ i = .int .i64 k ∧ Below w.heap.size w wr) (fun i _ => l.length - (intOf i).toNat)
  case atStart => exact ⟨0, by omega, rfl, Below.refl _ _⟩
  case round =>
    obtain ⟨k, hk, rfl, hb⟩ := hrel
    by_cases hlt : k < l.length
    · obtain ⟨g, o, rfl, hg, HC⟩ := HA.out.at_ (by omega)
      obtain ⟨g', o', rfl, hg', HC'⟩ := HB.out.at_ (by rw [HL.out]; omega)
      obtain ⟨x, HX, h0, h1⟩ := cell_get HC hb hlt
      obtain ⟨y, HY, h2, h3⟩ := cell_get HC' hb (k := k) (by rw [HL.out]; exact hlt)
      have hE : x.key.toList = y.key.toList ∧ x.val = y.val := by
        have e1 := congrArg (·[k]?) HM.out
        simpa [HX.out, HY.out] using e1
      obtain ⟨hE1, hE2⟩ := hE
      rw [← hE2] at h3
      have HE := hide hE1
      clear hE1 hE2
      go_wp2_with fail
      go_still_tail 8, (by kernel_rfl)
      change wpList _ _ _ _ _ wr.drew
      go_wp2_with fail
      refine (eqCell_c _ _ _ _ HE.out).mono ?_; rintro e w1 ⟨rfl, hb1⟩
      go_wp2
      go_roundw
      case rel => exact ⟨k + 1, by omega, by go_num, below_then hb.drew hb1⟩
      case measure => simp [intOf]; omega
    · go_wp2
      go_ret
      exact ⟨rfl, hb⟩
theorem szCellS_c (v : Value) (l : List Pu.CellD) (left : Int) (w : World) (hv : RdCells w v l) (h0 : 0 ≤ left) (h1 : left ≤ 1048576) :
    Calls Tryd.prog 19 #[v, .int .i64 left] w fun e w' => e = .returned (.int .i64 (Pu.szStr (l.map (·.key)) left)) ∧ Below w.heap.size w w' := by
  obtain ⟨hv, hwf⟩ := hv
  obtain ⟨A, c, rfl, hlc, hcm, hA⟩ := hv.open_
  have HA := hide hA
  have HW := hide hwf
  clear hA hv hwf
  by_cases hll : (l.length : Int) ≤ left
  · have hll' : ¬ left - (l.length : Int) < 0 := by omega
    go_enter Tryd.func19, Tryd.ntmps19
    go_wp2
    go_loopw [1, 5] (fun lf i wr => ∃ k : Nat, k ≤ l.length ∧ i = .int .i64 k ∧ lf = .int .i64 (left - l.length - Pu.tot ((l.map (·.key)).take k)) ∧ (Pu.tot ((l.map (·.key)).take k) : Int) ≤ left - l.length ∧ Below w.heap.size w wr) (fun _ i _ => l.length - (intOf i).toNat)
    case atStart => exact ⟨0, by omega, rfl, by simp [Pu.tot], by simp [Pu.tot]; omega, Below.refl _ _⟩
    case round =>
      obtain ⟨k, hk, rfl, rfl, hle, hb⟩ := hrel
      by_cases hlt : k < l.length
      · obtain ⟨g, o, rfl, hg, HC⟩ := HA.out.at_ (by omega)
        obtain ⟨x, HX, h2, h3⟩ := cell_get HC hb hlt
        have hT := hide (Pu.tot_take_succ (l := l.map (·.key)) (k := k) (x := x.key) (by rw [List.getElem?_map, HX.out]; rfl))
        have hxm := (HW.out x (List.mem_of_getElem? HX.out)).1
        have hge := Pu.tot_take_le (l.map (·.key)) (k + 1)
        by_cases hq : (x.key.size : Int) ≤ left - l.length - Pu.tot ((l.map (·.key)).take k)
        · have hT' : (Pu.tot ((l.map (·.key)).take (k + 1)) : Int) = Pu.tot ((l.map (·.key)).take k) + x.key.size := by have := hT.out; omega
          have HT' := hide hT'
          clear hT'
          go_wp2_with fail
          refine (szCell_c _ _ _ _ (by omega) (by omega) hxm).mono ?_; rintro e w1 ⟨rfl, hb1⟩
          rw [if_pos hq]
          go_wp2
          go_roundw
          case rel => exact ⟨k + 1, by omega, by go_num, by rw [HT'.out]; go_num, by have := HT'.out; omega, below_then hb hb1⟩
          case measure => simp [intOf]; omega
        · go_wp2_with fail
          refine (szCell_c _ _ _ _ (by omega) (by omega) hxm).mono ?_; rintro e w1 ⟨rfl, hb1⟩
          rw [if_neg (by omega)]
          go_wp2
          go_ret
          exact ⟨ret_int (by have := hT.out; rw [Pu.szStr, if_neg (by rw [List.length_map]; omega)]), below_then hb hb1⟩
      · obtain rfl : k = l.length := by omega
        have ht : (l.map (·.key)).take l.length = l.map (·.key) := List.take_of_length_le (by simp)
        have HT := hide ht
        clear ht
        go_wp2
        go_ret
        rw [HT.out] at hle ⊢
        exact ⟨ret_int (by rw [Pu.szStr, if_pos (by rw [List.length_map]; omega), List.length_map]; omega), hb⟩
  · go_enter Tryd.func19, Tryd.ntmps19
    go_wp2
    go_ret
    exact ⟨ret_int (by rw [Pu.szStr, if_neg (by rw [List.length_map]; omega)]), Below.refl _ _⟩
theorem info_cell : (Tryd.prog.info? 58).map (fun i => (i.zero, i.size, i.bytes)) = some (some (.agg #[.string ByteArray.empty, .int .i64 0]), 2, 24) := by kernel_rfl
theorem toCellS_c (v : Value) (l : List Pu.CellD) (w : World) (hv : RdL w 2 cellEn v l) (hl : l.length ≤ 1048576) :
    Calls Tryd.prog 21 #[v] w fun e w' => ∃ v', e = .returned v' ∧ OwnL w' w.heap.size 58 2 cellEn v' l ∧ Below w.heap.size w w' := by
  obtain ⟨A, c, rfl, hlc, hcm, hA⟩ := hv.open_
  have HA := hide hA
  clear hA hv
  obtain ⟨i0, hi, hz0, hz1, hz2⟩ := info_parts info_cell
  go_enter Tryd.func21, Tryd.ntmps21
  go_wp2_with (at_make; refine wpList_make_full _ rfl _ _ 41 rfl w.heap.size 58 i0 _ 2 Tryd.underlying41 hi hz0 hz1 .i64 .i64 _ _ l.length rfl rfl rfl rfl (by rw [hz2]; omega) (by unfold maxLen; omega) (Nat.le_refl _) ?_; intro w1 hown1 hg1)
  obtain ⟨Z, HZ⟩ : ∃ Z, Hid ((madeCells (Value.agg #[.string ByteArray.empty, .int .i64 0]).cells (l.length * 2)).toList = Z) := ⟨_, rfl⟩
  have hzl : Hid (Z.length = l.length * 2) := by rw [← HZ.out, Hid]; have := hown1.1; simpa using this
  rw [HZ.out] at hown1
  have HP := hide (show (l.flatMap cellEn).length = Z.length by rw [flat_len (size := 2) (fun _ => rfl)]; exact hzl.out.symm)
  have hb1 : Below w.heap.size w w1 := (Below.refl _ _).grown hg1 (Nat.le_refl _) (fun k hk => by cases hk)
  have hs1 : w.heap.size < w1.heap.size := own_lt hown1
  go_loopw [4] (fun i wr => ∃ k : Nat, k ≤ l.length ∧ i = .int .i64 k ∧ wr.ownsRow w.heap.size 58 2 (.slice (some ⟨w.heap.size, 0, none⟩) l.length l.length) l.length ((l.flatMap cellEn).take (k * 2) ++ Z.drop (k * 2)) ∧ Below w.heap.size w wr) (fun i _ => l.length - (intOf i).toNat)
  case atStart => exact ⟨0, by omega, rfl, by simpa using hown1, hb1⟩
  case round =>
    obtain ⟨k, hk, rfl, hown, hb⟩ := hrel
    by_cases hlt : k < l.length
    · obtain ⟨g, o, rfl, hg, HC⟩ := HA.out.at_ (by omega)
      obtain ⟨x, HX, h0, h1⟩ := cell_get HC hb hlt
      go_wp2_with fail
      refine (toCell_c _ _ _).mono ?_; rintro e w2 ⟨rfl, hb2⟩
      have hown2 := row_below hown hb2
      have hkz : k * 2 + 1 < Z.length := by rw [hzl.out]; omega
      have hP0 : (l.flatMap cellEn)[k * 2]? = some (.string x.key) := by have := flat_at (en := cellEn) (size := 2) (fun _ => rfl) HX.out (j := 0) (u := .string x.key) rfl; simpa using this
      have hP1 : (l.flatMap cellEn)[k * 2 + 1]? = some (.int .i64 x.val) := flat_at (en := cellEn) (size := 2) (fun _ => rfl) HX.out (j := 1) rfl
      have hc0 : w2.cell? ⟨w.heap.size, k * 2, none⟩ = some Z[k * 2] := by
        rw [World.ownsRow.cellAt hown2 (k * 2) (by omega), Pu.mid_at (by omega) HP.out]
      have hc1 : w2.cell? ⟨w.heap.size, k * 2 + 1, none⟩ = some Z[k * 2 + 1] := by
        rw [World.ownsRow.cellAt hown2 (k * 2 + 1) (by omega), List.getElem?_append_right (by rw [List.length_take]; omega), List.length_take, List.getElem?_drop]
        have hpl := HP.out
        rw [Nat.min_eq_left (by omega), show k * 2 + (k * 2 + 1 - k * 2) = k * 2 + 1 by omega]
        exact List.getElem?_eq_getElem hkz
      have hf0 := World.ownsRow.frozenAt hown2 (k * 2)
      have hf1 := World.ownsRow.frozenAt hown2 (k * 2 + 1)
      obtain ⟨hq1, hq2⟩ := World.ownsRow.stored hown2 (k * 2) (.string x.key)
      rw [Pu.set_mid hP0 HP.out] at hq1
      obtain ⟨hr1, hr2⟩ := World.ownsRow.stored hq1 (k * 2 + 1) (.int .i64 x.val)
      rw [Pu.set_mid hP1 HP.out, show k * 2 + 1 + 1 = (k + 1) * 2 by omega] at hr1
      have HR := hide hr1
      clear hP0 hP1 hq1 hq2 hr1 hr2 hown hown2
      go_wp2
      go_roundw
      case rel => exact ⟨k + 1, by omega, by go_num, HR.out, ((below_then hb hb2).setCell (Nat.le_refl _) _).setCell (Nat.le_refl _) _⟩
      case measure => simp [intOf]; omega
    · obtain rfl : k = l.length := by omega
      go_wp2
      go_ret
      refine ⟨_, rfl, ?_, hb⟩
      unfold OwnL
      rw [List.take_of_length_le (by rw [flat_len (size := 2) (fun _ => rfl)]; omega), dropEnd (by rw [hzl.out]; omega), List.append_nil] at hown
      exact hown
end Go.Proofs.YtfmjcmhofjibmaaDoor
