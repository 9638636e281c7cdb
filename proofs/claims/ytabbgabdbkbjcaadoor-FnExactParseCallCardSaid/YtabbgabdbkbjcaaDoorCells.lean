/- Contracts: cells. -/
import Derived.Test.YtabbgabdbkbjcaaDoorMem
import Derived.Test.YtabbgabdbkbjcaaDoorName
import Derived.Deep.QuietTactic
import Derived.BigQuiet
namespace Go.Proofs.YtabbgabdbkbjcaaDoor
open Go.ChangeShapes Go.WideShapes Go.ChangeAt Go.RowKit
set_option maxRecDepth 100000
theorem isNumber_c (n : Int) (w : World) :
    Calls Tryd.prog 57 #[.int .i64 n] w fun e w' => e = .returned (.bool (Pu.isNum n)) ∧ w = w' := by
  go_enter Tryd.func57, Tryd.ntmps57
  go_wp2
  all_goals (go_ret; refine ⟨ret_bool ?_, rfl⟩; rw [Bool.eq_iff_iff]; simp [Pu.isNum]; omega)
theorem iIsCells_c (v : Value) (l : List Pu.CellD) (w : World) (hv : RdCells w v l) :
    Calls Tryd.prog 45 #[v] w fun e w' => e = .returned (.bool (Pu.cellsB l)) ∧ Below w.heap.size w w' := by
  obtain ⟨hv, hwf⟩ := hv
  obtain ⟨A, c, rfl, hlc, hcm, hrd⟩ := hv.open_
  have HR := hide hrd
  clear hrd hv
  by_cases h4 : l.length ≤ 4
  · have HF : Hid (Pu.cellsB l = Pu.cellsFrom none l) := by simp [Hid, Pu.cellsB, h4]
    go_enter Tryd.func45, Tryd.ntmps45
    go_wp2
    go_loopw [10] (fun i wr => ∃ k : Nat, k ≤ l.length ∧ i = .int .i64 k ∧ Hid (Pu.cellsFrom none l = Pu.cellsFrom (if k = 0 then none else (l[k-1]?).map (·.key)) (l.drop k)) ∧ Below w.heap.size w wr) (fun i _ => l.length - (intOf i).toNat)
    case atStart => exact ⟨0, by omega, rfl, rfl, Below.refl _ _⟩
    case round =>
      obtain ⟨k, hk, rfl, HA, hb⟩ := hrel
      by_cases hlt : k < l.length
      · obtain ⟨g, o, rfl, hg, HC⟩ := HR.out.at_ (by omega)
        obtain ⟨x, HX, h0, h1⟩ := cell_get HC hb hlt
        have hxw := hide ((hwf x (List.mem_of_getElem? HX.out)).1)
        have HD := hide (dropL HX)
        rcases hn : Pu.nameL x.key.toList with _ | _
        · go_wp2_with fail
          go_quiet ((first | (go_at_call 60; exact quiet_same (iIsName_c _ _ hxw.out)) | (go_at_call 57; exact quiet_same (isNumber_c _ _))))
          go_wp2
          go_ret
          exact ⟨ret_bool (by rw [HF.out, HA.out, HD.out, Pu.cellsFrom, hn]; rfl), below_drewN (below_alloc hb _) _⟩
        rcases hm : Pu.isNum x.val with _ | _
        · go_wp2_with fail
          go_quiet ((first | (go_at_call 60; exact quiet_same (iIsName_c _ _ hxw.out)) | (go_at_call 57; exact quiet_same (isNumber_c _ _))))
          go_wp2
          go_ret
          exact ⟨ret_bool (by rw [HF.out, HA.out, HD.out, Pu.cellsFrom, hn, hm]; rfl), below_drewN (below_alloc hb _) _⟩
        by_cases hk0 : 0 < k
        · have hk1 : k - 1 < l.length := by omega
          obtain ⟨y, HY, h2, h3⟩ := cell_get HC hb hk1
          have hA2 : ∀ o', (wr.alloc o').cell? ⟨g, o + (k - 1) * 2, none⟩ = some (.string y.key) := fun o' => (World.cell?_alloc_lt _ _ _ (by exact Nat.lt_of_lt_of_le hg hb.size)).trans h2
          have HE := hide (show (if k = 0 then none else (l[k-1]?).map (·.key)) = some y.key by rw [if_neg (by omega), HY.out]; rfl)
          have e2 : 0 ≤ (k : Int) - 1 := by omega
          have e2' : 1 ≤ (k : Int) := by omega
          have e3 : (k : Int) - 1 < (l.length : Int) := by omega
          have e1 : IntKind.i64.wrap ((k : Int) - 1) = (k : Int) - 1 := IntWalk.i64_in _ (by omega)
          have e4 : ((k : Int) - 1).toNat = k - 1 := by omega
          rcases hq : Op.bytesLess y.key.toList x.key.toList with _ | _
          · go_wp2_with fail
            go_quiet ((first | (go_at_call 60; exact quiet_same (iIsName_c _ _ hxw.out)) | (go_at_call 57; exact quiet_same (isNumber_c _ _))))
            go_wp2
            go_ret
            exact ⟨ret_bool (by rw [HF.out, HA.out, HD.out, Pu.cellsFrom, hn, hm, HE.out]; simp [Pu.keyB, hq]), below_drewN (below_alloc hb _) _⟩
          · go_wp2_with fail
            go_quiet ((first | (go_at_call 60; exact quiet_same (iIsName_c _ _ hxw.out)) | (go_at_call 57; exact quiet_same (isNumber_c _ _))))
            go_wp2
            go_roundw
            case rel => exact ⟨k + 1, by omega, by go_num, by rw [Hid, HA.out, HD.out, Pu.cellsFrom, hn, hm, HE.out]; simp [Pu.keyB, hq, HX.out], below_drewN (below_alloc hb _) _⟩
            case measure => simp [intOf]; omega
        · have HE := hide (show (if k = 0 then none else (l[k-1]?).map (·.key)) = none by rw [if_pos (by omega)])
          go_wp2_with fail
          go_quiet ((first | (go_at_call 60; exact quiet_same (iIsName_c _ _ hxw.out)) | (go_at_call 57; exact quiet_same (isNumber_c _ _))))
          go_wp2
          go_roundw
          case rel => exact ⟨k + 1, by omega, by go_num, by rw [Hid, HA.out, HD.out, Pu.cellsFrom, hn, hm, HE.out]; simp [Pu.keyB, HX.out], below_drewN (below_alloc hb _) _⟩
          case measure => simp [intOf]; omega
      · go_wp2
        go_ret
        exact ⟨ret_bool (by rw [HF.out, HA.out, List.drop_eq_nil_of_le (by omega)]; rfl), hb⟩
  · go_enter Tryd.func45, Tryd.ntmps45
    go_wp2
    go_ret
    exact ⟨ret_bool (by simp [Pu.cellsB, h4]), Below.refl _ _⟩
theorem sIsCells_c (v : Value) (l : List Pu.CellD) (w : World) (hv : RdCells w v l) :
    Calls Tryd.prog 44 #[v] w fun e w' => e = .returned (.bool (Pu.cellsB l)) ∧ Below w.heap.size w w' := by
  obtain ⟨hv, hwf⟩ := hv
  obtain ⟨A, c, rfl, hlc, hcm, hrd⟩ := hv.open_
  have HR := hide hrd
  clear hrd hv
  go_enter Tryd.func44, Tryd.ntmps44
  go_wp2
  go_loopw [7] (fun i wr => ∃ k : Nat, k ≤ l.length ∧ i = .int .i64 k ∧ Hid (Pu.cellsFrom none l = Pu.cellsFrom (if k = 0 then none else (l[k-1]?).map (·.key)) (l.drop k)) ∧ Below w.heap.size w wr) (fun i _ => l.length - (intOf i).toNat)
  case atStart => exact ⟨0, by omega, rfl, rfl, Below.refl _ _⟩
  case round =>
    obtain ⟨k, hk, rfl, HB, hb⟩ := hrel
    by_cases hlt : k < l.length
    · obtain ⟨g, o, rfl, hg, HC⟩ := HR.out.at_ (by omega)
      obtain ⟨x, HX, h0, h1⟩ := cell_get HC hb hlt
      have hxw := hide ((hwf x (List.mem_of_getElem? HX.out)).1)
      have HD := hide (dropL HX)
      rcases hn : Pu.nameL x.key.toList with _ | _
      · go_wp2_with fail
        go_quiet ((first | (go_at_call 61; exact quiet_same (sIsName_c _ _ hxw.out))))
        go_wp2
        go_ret
        exact ⟨ret_bool (by rw [Pu.cellsB, HB.out, HD.out, Pu.cellsFrom, hn]; simp), below_drewN (below_alloc hb _) _⟩
      by_cases hv0 : x.val < 0
      · have hv1 : decide (x.val < 0) = true := by simp; omega
        have HN : Hid (Pu.isNum x.val = false) := by rw [Hid, Pu.isNum, decide_eq_false (by omega)]; rfl
        go_wp2_with fail
        go_quiet ((first | (go_at_call 61; exact quiet_same (sIsName_c _ _ hxw.out))))
        go_wp2
        go_ret
        exact ⟨ret_bool (by rw [Pu.cellsB, HB.out, HD.out, Pu.cellsFrom, HN.out]; simp), below_drewN (below_alloc hb _) _⟩
      have hv0' : decide (x.val < 0) = false := by simp; omega
      by_cases hv9 : 999 < x.val
      · have hv1 : decide (999 < x.val) = true := by simp; omega
        have HN : Hid (Pu.isNum x.val = false) := by rw [Hid, Pu.isNum, decide_eq_false (p := x.val ≤ 999) (by omega)]; simp
        go_wp2_with fail
        go_quiet ((first | (go_at_call 61; exact quiet_same (sIsName_c _ _ hxw.out))))
        go_wp2
        go_ret
        exact ⟨ret_bool (by rw [Pu.cellsB, HB.out, HD.out, Pu.cellsFrom, HN.out]; simp), below_drewN (below_alloc hb _) _⟩
      have hv9' : decide (999 < x.val) = false := by simp; omega
      have HN : Hid (Pu.isNum x.val = true) := by rw [Hid, Pu.isNum, decide_eq_true (by omega), decide_eq_true (by omega)]; rfl
      by_cases hk0 : 0 < k
      · have hk1 : k - 1 < l.length := by omega
        obtain ⟨y, HY, h2, h3⟩ := cell_get HC hb hk1
        have hA2 : ∀ o', (wr.alloc o').cell? ⟨g, o + (k - 1) * 2, none⟩ = some (.string y.key) := fun o' => (World.cell?_alloc_lt _ _ _ (by exact Nat.lt_of_lt_of_le hg hb.size)).trans h2
        have HE := hide (show (if k = 0 then none else (l[k-1]?).map (·.key)) = some y.key by rw [if_neg (by omega), HY.out]; rfl)
        have e2 : 0 ≤ (k : Int) - 1 := by omega
        have e2' : 1 ≤ (k : Int) := by omega
        have e3 : (k : Int) - 1 < (l.length : Int) := by omega
        have e1 : IntKind.i64.wrap ((k : Int) - 1) = (k : Int) - 1 := IntWalk.i64_in _ (by omega)
        have e4 : ((k : Int) - 1).toNat = k - 1 := by omega
        rcases hq : Op.bytesLess y.key.toList x.key.toList with _ | _
        · go_wp2_with fail
          go_quiet ((first | (go_at_call 61; exact quiet_same (sIsName_c _ _ hxw.out))))
          go_wp2
          go_ret
          exact ⟨ret_bool (by rw [Pu.cellsB, HB.out, HD.out, Pu.cellsFrom, HE.out]; simp [Pu.keyB, hq]), below_drewN (below_alloc hb _) _⟩
        · go_wp2_with fail
          go_quiet ((first | (go_at_call 61; exact quiet_same (sIsName_c _ _ hxw.out))))
          go_wp2
          go_roundw
          case rel => exact ⟨k + 1, by omega, by go_num, by rw [Hid, HB.out, HD.out, Pu.cellsFrom, hn, HN.out, HE.out]; simp [Pu.keyB, hq, HX.out], below_drewN (below_alloc hb _) _⟩
          case measure => simp [intOf]; omega
      · have HE := hide (show (if k = 0 then none else (l[k-1]?).map (·.key)) = none by rw [if_pos (by omega)])
        go_wp2_with fail
        go_quiet ((first | (go_at_call 61; exact quiet_same (sIsName_c _ _ hxw.out))))
        go_wp2
        go_roundw
        case rel => exact ⟨k + 1, by omega, by go_num, by rw [Hid, HB.out, HD.out, Pu.cellsFrom, hn, HN.out, HE.out]; simp [Pu.keyB, HX.out], below_drewN (below_alloc hb _) _⟩
        case measure => simp [intOf]; omega
    · go_wp2
      go_ret
      exact ⟨ret_bool (by rw [Pu.cellsB, HB.out, dropEnd (by omega), Pu.cellsFrom, Bool.and_true, Bool.eq_iff_iff]; simp; omega), hb⟩
end Go.Proofs.YtabbgabdbkbjcaaDoor
