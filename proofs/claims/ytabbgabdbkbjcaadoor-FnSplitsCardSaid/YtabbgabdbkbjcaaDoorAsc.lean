/- Contracts: the sort of texts, ascending texts. -/
import Derived.Test.YtabbgabdbkbjcaaDoorShelf
import Derived.Test.YtabbgabdbkbjcaaDoorAscPure
import Derived.Test.YtabbgabdbkbjcaaDoorCopy
import Derived.Deep.QuietTactic
import Derived.BigQuiet
namespace Go.Proofs.YtabbgabdbkbjcaaDoor
open Go.ChangeShapes Go.WideShapes Go.ChangeAt Go.RowKit
set_option maxRecDepth 100000
theorem one_str (n : ByteArray) : ∀ u ∈ [Value.string n], u.oneCell' = true := by simp [Value.oneCell']
theorem one_strEn (n : ByteArray) : ∀ u ∈ strEn n, u.oneCell' = true := by simp [strEn, Value.oneCell']
theorem flat_strs (l : List ByteArray) : l.flatMap strEn = l.map Value.string := by
  induction l with
  | nil => rfl
  | cons x r ih => rw [List.flatMap_cons, ih]; rfl
theorem sortB_get (l : List ByteArray) : (Pu.sortB l).map Value.string = (Pu.sortK l).map encStr := by
  rw [Pu.sortB, List.map_map]; rfl
theorem sort_c (v : Value) (l : List ByteArray) (base : Nat) (w : World) (h : OwnL w base 9 1 strEn v l) (hl : l.length ≤ 1099511627776) :
    Calls Tryd.prog 35 #[v] w fun e w' => e = .returned (.tuple #[]) ∧ OwnL w' base 9 1 strEn v (Pu.sortB l) ∧ w.grownBy w' v.ownBlock := by
  obtain ⟨h1, h2⟩ := h
  rcases h2 with ⟨rfl, h0⟩ | ⟨g, cap, cur, rfl, hb, hg, hnc, hcm, hcs, htake⟩
  · have : l = [] := List.eq_nil_of_length_eq_zero h0
    subst this
    refine (Tryd.sort_Strings_none none 0 w).mono ?_
    rintro e w' ⟨rfl, rfl⟩
    exact ⟨rfl, by rw [show Pu.sortB [] = [] by simp [Pu.sortB, Pu.sortK]]; exact OwnL.nil _ _ _ _ _, grown_refl _ _⟩
  · rw [flat_strs, Nat.mul_one] at htake
    have hgs : g < w.heap.size := by
      rcases Nat.lt_or_ge g w.heap.size with hlt | hge
      · exact hlt
      · rw [Array.getElem?_eq_none hge] at hg; cases hg
    have hH : Sort.Holds encStr w g 0 (l.map (·.data.toList)).toArray := by
      intro j hj
      have hj' : j < l.length := by simpa using hj
      refine ⟨?_, frozen_of_row w g _ _ _ hg⟩
      rw [Nat.zero_add, cell_of_row w g j _ _ (0, 0) hg, getElem!_pos _ j hj]
      have hjt : (cur.toList.take l.length)[j]? = some (.string l[j]) := by rw [htake, List.getElem?_map, List.getElem?_eq_getElem hj']; rfl
      rw [List.getElem?_take, if_pos hj'] at hjt
      simpa using hjt
    have hc := Tryd.sort_Strings g 0 cap (l.map (·.data.toList)) w hH hgs (by simp; omega)
    rw [List.length_map] at hc
    refine hc.mono ?_
    rintro e w' ⟨rfl, n, os, rfl⟩
    have hblk : ∀ k, k < w.heap.size → (Sort.grow (Sort.putRow encStr (Sort.ahead w n) g 0 (Pu.sortK l).toArray) os).heap[k]? = (Sort.putRow encStr (Sort.ahead w n) g 0 (Pu.sortK l).toArray).heap[k]? := by
      intro k hk
      show ((Sort.putRow encStr (Sort.ahead w n) g 0 (Pu.sortK l).toArray).heap ++ os)[k]? = _
      rw [Array.getElem?_append_left (by simpa using hk)]
    refine ⟨rfl, ⟨by rw [flat_strs]; simp, .inr ⟨g, cap, Sort.putCells encStr 0 (Pu.sortK l).toArray cur, by rw [Pu.sortB_len], hb, ?_, by rw [Pu.sortB_len]; exact hnc, hcm, by simp [Sort.putCells, hcs], ?_⟩⟩, ⟨rfl, rfl, rfl, ?_, ?_⟩⟩
    · refine (hblk g hgs).trans ?_
      simp [Sort.putRow, Sort.mapBlock, Sort.ahead, Array.getElem?_modify, hg, Sort.onCells]
    · rw [flat_strs, sortB_get, Pu.sortB_len, Nat.mul_one]
      apply List.ext_getElem?
      intro k
      rw [List.getElem?_take]
      split
      · rename_i hk
        have hkc : k < cur.size := by omega
        have hks : k < (Pu.sortK l).length := by rw [Pu.sortK_len]; exact hk
        simp [Sort.putCells, hkc, hks]
      · rename_i hk
        rw [List.getElem?_eq_none (by rw [List.length_map, Pu.sortK_len]; omega)]
    · show _ ≤ ((Sort.putRow encStr (Sort.ahead w n) g 0 (Pu.sortK l).toArray).heap ++ os).size
      simp [Sort.ahead]
    · intro k hk hne
      refine (hblk k hk).trans ?_
      have : ¬ g = k := fun e => hne (by rw [e]; rfl)
      simp [Sort.putRow, Sort.mapBlock, Sort.ahead, Array.getElem?_modify, this]
set_option maxHeartbeats 1000000 in
theorem iAscending_c (v : Value) (l : List ByteArray) (w : World) (hv : RdStr w v l) (hl : l.length ≤ 16777216) :
    Calls Tryd.prog 16 #[v] w fun e w' => ∃ v', e = .returned v' ∧ OwnL w' w.heap.size 9 1 strEn v' (Pu.asc l) ∧ Below w.heap.size w w' := by
  obtain ⟨i0, hi, hz0, hz1, hz2⟩ := info_parts info_str
  obtain ⟨A, c, rfl, hlc, hcm, _⟩ := hv.open_
  have HV := hide hv
  clear hv
  have HF := hide (Pu.dd_sort l)
  have HL := hide (Pu.sortB_len l)
  go_enter Tryd.func16, Tryd.ntmps16
  go_wp2_with (at_builtin; go_must (refine copy_law rfl _ _ 22 (by exact rfl) w.heap.size 9 i0 _ 1 16 Tryd.underlying22 hi hz0 hz1 hz2 rfl (by decide) strEn (fun _ => rfl) one_strEn (.slice none 0 0) _ l (by exact rfl) (OwnL.nil _ _ _ _ _) (by exact rfl) HV.out (Nat.le_refl _) (by omega) (by decide) ?_); intro v1 w1 hown1 hg1)
  have hb1 : Below w.heap.size w w1 := (Below.refl _ _).grown hg1 (Nat.le_refl _) (fun k hk => by cases hk)
  go_wp2_with fail
  refine (sort_c _ _ _ _ hown1 (by omega)).mono ?_; rintro e W2 ⟨rfl, o2, g2⟩
  have hb2 : Below w.heap.size w W2 := hb1.grown g2 hb1.size (fun k hk => (World.ownsRow.lt hown1 k hk).1)
  have hr2 : RdStr W2 v1 (Pu.sortB l) := o2.rd (fun _ => rfl)
  obtain ⟨A1, c1, rfl, hlc1, hcm1, hA1⟩ := hr2.open_
  have HA := hide hA1
  rw [HL.out] at hlc1
  rw [HL.out]
  clear hA1 hr2 g2 hg1 hb1
  have O2 := hide o2
  have HB2 := hide hb2
  clear o2 hb2 hown1
  go_wp2
  go_loopw [4, 13] (fun v i wr => ∃ (k : Nat) (o : List ByteArray), k ≤ l.length ∧ i = .int .i64 k ∧ o.length ≤ k ∧ Hid (Pu.asc l = o ++ Pu.dd (if k = 0 then none else (Pu.sortB l)[k-1]?) ((Pu.sortB l).drop k)) ∧ OwnL wr W2.heap.size 9 1 strEn v o ∧ Below W2.heap.size W2 wr) (fun _ i _ => l.length - (intOf i).toNat)
  case atStart => exact ⟨0, [], by omega, rfl, Nat.le_refl _, HF.out.symm, OwnL.nil _ _ _ _ _, Below.refl _ _⟩
  case round =>
    obtain ⟨k, o, hk, rfl, hok, HD, hown, hb⟩ := hrel
    by_cases hlt : k < l.length
    · have hlt' : k < (Pu.sortB l).length := by rw [HL.out]; exact hlt
      obtain ⟨g, p, rfl, hg, HC⟩ := HA.out.at_ (by omega)
      obtain ⟨x, HX, h0⟩ := str_get HC hb hlt'
      have HE := hide (dropL HX)
      by_cases hk0 : (k : Int) = 0
      · have HN := hide (show (if k = 0 then none else (Pu.sortB l)[k-1]?) = none by rw [if_pos (by omega)])
        have h0' : wr.cell? ⟨g, p, none⟩ = some (.string x) := by obtain rfl : k = 0 := (by omega); simpa using h0
        clear h0
        go_wp2_with (at_builtin; go_must (refine push_law rfl _ _ 22 (by exact rfl) W2.heap.size 9 i0 (.string ByteArray.empty) 1 16 Tryd.underlying22 hi hz0 hz1 hz2 rfl (by decide) strEn _ _ x (by exact rfl) hown (by exact rfl) rfl (one_str _) hb (Nat.le_refl _) hb.size (by omega) (by decide) ?_); intro v1 w1 hown1 hg1 hb1)
        go_roundw
        case rel => exact ⟨k + 1, o ++ [x], by omega, by go_num, by simp; omega, by rw [Hid, HD.out, HE.out, HN.out, Pu.dd]; simp [HX.out], hown1, hb1⟩
        case measure => simp [intOf]; omega
      · have hk1 : k - 1 < (Pu.sortB l).length := by rw [HL.out]; omega
        obtain ⟨y, HY, h2⟩ := str_get HC hb hk1
        have HN := hide (show (if k = 0 then none else (Pu.sortB l)[k-1]?) = some y by rw [if_neg (by omega), HY.out])
        have e2 : 0 ≤ (k : Int) - 1 := by omega
        have e2' : 1 ≤ (k : Int) := by omega
        have e3 : (k : Int) - 1 < (l.length : Int) := by omega
        have e1 : IntKind.i64.wrap ((k : Int) - 1) = (k : Int) - 1 := IntWalk.i64_in _ (by omega)
        have e4 : ((k : Int) - 1).toNat = k - 1 := by omega
        rcases hq : (y.toList == x.toList) with _ | _
        · go_wp2_with (at_builtin; go_must (refine push_law rfl _ _ 22 (by exact rfl) W2.heap.size 9 i0 (.string ByteArray.empty) 1 16 Tryd.underlying22 hi hz0 hz1 hz2 rfl (by decide) strEn _ _ x (by exact rfl) hown (by exact rfl) rfl (one_str _) hb (Nat.le_refl _) hb.size (by omega) (by decide) ?_); intro v1 w1 hown1 hg1 hb1)
          go_roundw
          case rel => exact ⟨k + 1, o ++ [x], by omega, by go_num, by simp; omega, by rw [Hid, HD.out, HE.out, HN.out, Pu.dd, if_neg (by rw [hq]; exact Bool.noConfusion)]; simp [HX.out], hown1, hb1⟩
          case measure => simp [intOf]; omega
        · go_wp2
          go_roundw
          case rel => exact ⟨k + 1, o, by omega, by go_num, by omega, by rw [Hid, HD.out, HE.out, HN.out, Pu.dd, if_pos hq]; simp [HX.out], hown, hb⟩
          case measure => simp [intOf]; omega
    · have HE := hide (dropEnd (l := Pu.sortB l) (k := k) (by rw [HL.out]; omega))
      go_wp2
      go_ret
      exact ⟨_, rfl, by rw [HD.out, HE.out, show ∀ q, Pu.dd q [] = [] from fun q => by cases q <;> rfl, List.append_nil]; exact hown.mono HB2.out.size, HB2.out.trans (hb.mono HB2.out.size)⟩
end Go.Proofs.YtabbgabdbkbjcaaDoor
