/- Contracts: calls as texts. -/
import Derived.Test.YtabbgabdbkbjcaaDoorNumText
import Derived.Test.YtabbgabdbkbjcaaDoorCall
import Derived.Deep.RegionHeld3
namespace Go.Proofs.YtabbgabdbkbjcaaDoor
open Go.ChangeShapes Go.WideShapes Go.ChangeAt Go.RowKit
set_option maxRecDepth 100000
theorem Pu.numB_3 {n : Int} (h : Pu.isNum n = true) : (Pu.numB n).size ≤ 3 := by
  simp only [Pu.isNum, Bool.and_eq_true, decide_eq_true_eq] at h
  have := Pu.itoa_len_small h.1 h.2
  have e : (Pu.numB n).size = (Lib.itoa n).length := rfl
  omega
theorem Pu.isNum_bd {n : Int} (h : Pu.isNum n = true) : 0 ≤ n ∧ n ≤ 999 := by
  simp only [Pu.isNum, Bool.and_eq_true, decide_eq_true_eq] at h
  exact h
theorem Pu.name_8 {s : ByteArray} (h : Pu.nameL s.toList = true) : s.size ≤ 8 := by
  simp only [Pu.nameL, Bool.and_eq_true, decide_eq_true_eq, lenB] at h
  exact h.1.2
def Pu.callTo (g p h l : Bool) (x : Pu.CallD) : ByteArray :=
  if p then ⟨#[80, 117, 116, 32]⟩ ++ x.key ++ ⟨#[32]⟩ ++ Pu.numB x.value else if g then ⟨#[71, 101, 116, 32]⟩ ++ x.key else if h then ⟨#[72, 101, 97, 114, 32]⟩ ++ Pu.numB x.value else if l then ⟨#[76, 111, 97, 100, 32]⟩ ++ x.text else x.method
def Pu.callT (x : Pu.CallD) : ByteArray := if Pu.callB x then Pu.callTo (x.method.toList == Pu.mGet) (x.method.toList == Pu.mPut) (x.method.toList == Pu.mHear) (x.method.toList == Pu.mLoad) x else ⟨#[]⟩
set_option maxHeartbeats 4000000 in
theorem iFormatCall_c (x : Pu.CallD) (w : World) (hT : Pow10 w) (hw : CallD.wf x) (htx : x.text.size ≤ 1048576) :
    Calls Tryd.prog 43 #[callV x] w fun e w' => e = .returned (.string (Pu.callT x)) ∧ Below w.heap.size w w' := by
  have hlt0 := hT.lt
  have HT := hide hT
  clear hT
  have HW := hide hw
  clear hw
  have hA : Hid (Below w.heap.size w (w.alloc (.cells #[.string x.method, .string x.key, .int .i64 x.value, .string x.text] 36))) := below_alloc (Below.refl _ _) _
  rcases hB : Pu.callB x with _ | _
  · have HF : Hid (Pu.callT x = ⟨#[]⟩) := by rw [Hid, Pu.callT, hB]; rfl
    unfold callV
    go_enter Tryd.func43, Tryd.ntmps43
    go_wp2_with fail
    refine (iIsCall_c x _ HW.out).mono ?_; rintro e w1 ⟨rfl, b1⟩
    rw [hB]
    go_wp2
    go_ret
    exact ⟨ret_str HF.out.symm, below_then hA.out b1⟩
  obtain ⟨G, hG⟩ : ∃ b, (x.method.toList == [71, 101, 116]) = b := ⟨_, rfl⟩
  obtain ⟨P, hP⟩ : ∃ b, (x.method.toList == [80, 117, 116]) = b := ⟨_, rfl⟩
  obtain ⟨H, hH⟩ : ∃ b, (x.method.toList == [72, 101, 97, 114]) = b := ⟨_, rfl⟩
  obtain ⟨L, hL⟩ : ∃ b, (x.method.toList == [76, 111, 97, 100]) = b := ⟨_, rfl⟩
  have hm := Pu.method_cases x.method.toList
  simp only [Pu.mGet, Pu.mPut, Pu.mHear, Pu.mLoad, hG, hP, hH, hL] at hm
  have HF : Hid (Pu.callT x = Pu.callTo G P H L x) := by rw [Hid, Pu.callT, hB, if_pos rfl, Pu.mGet, Pu.mPut, Pu.mHear, Pu.mLoad, hG, hP, hH, hL]
  have HO : Hid (Pu.callOf G P H L x = true) := by rw [Hid, ← hB, Pu.callB, Pu.mGet, Pu.mPut, Pu.mHear, Pu.mLoad, hG, hP, hH, hL]
  have HBX := hide hB
  clear hB
  unfold callV
  rcases hm with ⟨rfl, rfl, rfl, rfl⟩ | ⟨rfl, rfl, rfl, rfl⟩ | ⟨rfl, rfl, rfl, rfl⟩ | ⟨rfl, rfl, rfl, rfl⟩ | ⟨rfl, rfl, rfl, rfl⟩
  · have h8 : x.key.size ≤ 8 := by
      have h := HO.out
      simp [Pu.callOf] at h
      exact Pu.name_8 h.2.1
    have hz1 : ¬ 9223372036854775807 < 4 + x.key.size := by omega
    go_enter Tryd.func43, Tryd.ntmps43
    go_wp2_with fail
    refine (iIsCall_c x _ HW.out).mono ?_; rintro e w1 ⟨rfl, b1⟩
    rw [HBX.out]
    obtain ⟨c0, c1, c2, c3, cf⟩ := four_cells ((b1.block w.heap.size (by simp)).trans (heap_new rfl))
    go_wp2
    go_ret
    exact ⟨ret_str HF.out.symm, below_then hA.out b1⟩
  · have h8 : x.key.size ≤ 8 ∧ Pu.isNum x.value = true := by
      have h := HO.out
      simp [Pu.callOf] at h
      exact ⟨Pu.name_8 h.2.1, h.2.2⟩
    have hn3 := Pu.numB_3 h8.2
    have hnb := Pu.isNum_bd h8.2
    have hk8 := h8.1
    clear h8
    have hz1 : ¬ 9223372036854775807 < 4 + x.key.size := by omega
    have hz2 : ¬ 9223372036854775807 < 4 + x.key.size + 1 := by omega
    have hz3 : ¬ 9223372036854775807 < 4 + x.key.size + 1 + (Pu.numB x.value).size := by omega
    go_enter Tryd.func43, Tryd.ntmps43
    go_wp2_with fail
    refine (iIsCall_c x _ HW.out).mono ?_; rintro e w1 ⟨rfl, b1⟩
    rw [HBX.out]
    obtain ⟨c0, c1, c2, c3, cf⟩ := four_cells ((b1.block w.heap.size (by simp)).trans (heap_new rfl))
    have HB1 := hide (below_then hA.out b1)
    have hL1 : w.heap.size < w1.heap.size := by have := b1.size; simp at this; omega
    clear b1
    go_wp2_with fail
    have K0 : Below w1.heap.size w1 w1 := Below.refl _ _
    have HT1 := hide (HT.out.below HB1.out hlt0)
    have hlt1 := HT1.out.lt
    go_region_held3 (fun w' => w'.cell? ⟨w.heap.size, 1, none⟩ = some (.string x.key) ∧ w'.cell? ⟨w.heap.size, 2, none⟩ = some (.int .i64 x.value)) (go_keep)
      (first
        | (go_at_call 58;
            refine (iFormatNumber_c x.value _ (HT1.out.below (by first | exact K0 | exact K0.drew) hlt1) (by omega) (by omega)).mono ?_;
            rintro e WX ⟨rfl, bX⟩;
            have KWX : Below w1.heap.size w1 WX := below_then (by first | exact K0 | exact K0.drew) bX;
            have KX : ∀ k : Nat, WX.cell? ⟨w.heap.size, k, none⟩ = _ := fun k => KWX.cell hL1))
    go_wp2
    go_ret
    exact ⟨ret_str HF.out.symm, below_then HB1.out KWX⟩
  · have hnb : Pu.isNum x.value = true := by
      have h := HO.out
      simp [Pu.callOf] at h
      exact h.2.2
    have hn3 := Pu.numB_3 hnb
    have hnb := Pu.isNum_bd hnb
    have hz1 : ¬ 9223372036854775807 < 5 + (Pu.numB x.value).size := by omega
    go_enter Tryd.func43, Tryd.ntmps43
    go_wp2_with fail
    refine (iIsCall_c x _ HW.out).mono ?_; rintro e w1 ⟨rfl, b1⟩
    rw [HBX.out]
    obtain ⟨c0, c1, c2, c3, cf⟩ := four_cells ((b1.block w.heap.size (by simp)).trans (heap_new rfl))
    have HB1 := hide (below_then hA.out b1)
    clear b1
    have K0 : Below w1.heap.size w1 w1 := Below.refl _ _
    have HT1 := hide (HT.out.below HB1.out hlt0)
    have hlt1 := HT1.out.lt
    go_wp2_with fail
    refine (iFormatNumber_c x.value _ (HT1.out.below (by first | exact K0 | exact K0.drew) hlt1) (by omega) (by omega)).mono ?_; rintro e w2 ⟨rfl, b2⟩
    go_wp2
    go_ret
    exact ⟨ret_str HF.out.symm, below_then HB1.out b2⟩
  · have hz1 : ¬ 9223372036854775807 < 5 + x.text.size := by omega
    go_enter Tryd.func43, Tryd.ntmps43
    go_wp2_with fail
    refine (iIsCall_c x _ HW.out).mono ?_; rintro e w1 ⟨rfl, b1⟩
    rw [HBX.out]
    obtain ⟨c0, c1, c2, c3, cf⟩ := four_cells ((b1.block w.heap.size (by simp)).trans (heap_new rfl))
    go_wp2
    go_ret
    exact ⟨ret_str HF.out.symm, below_then hA.out b1⟩
  · go_enter Tryd.func43, Tryd.ntmps43
    go_wp2_with fail
    refine (iIsCall_c x _ HW.out).mono ?_; rintro e w1 ⟨rfl, b1⟩
    rw [HBX.out]
    obtain ⟨c0, c1, c2, c3, cf⟩ := four_cells ((b1.block w.heap.size (by simp)).trans (heap_new rfl))
    go_wp2
    go_ret
    exact ⟨ret_str HF.out.symm, below_then hA.out b1⟩
set_option maxHeartbeats 4000000 in
theorem sFormatCall_c (x : Pu.CallD) (w : World) (hw : CallD.wf x) (htx : x.text.size ≤ 1048576) :
    Calls Tryd.prog 39 #[callV x] w fun e w' => e = .returned (.string (Pu.callT x)) ∧ Below w.heap.size w w' := by
  have HW := hide hw
  clear hw
  have hA : Hid (Below w.heap.size w (w.alloc (.cells #[.string x.method, .string x.key, .int .i64 x.value, .string x.text] 36))) := below_alloc (Below.refl _ _) _
  rcases hB : Pu.callB x with _ | _
  · have HF : Hid (Pu.callT x = ⟨#[]⟩) := by rw [Hid, Pu.callT, hB]; rfl
    unfold callV
    go_enter Tryd.func39, Tryd.ntmps39
    go_wp2_with fail
    refine (sIsCall_c x _ HW.out).mono ?_; rintro e w1 ⟨rfl, b1⟩
    rw [hB]
    go_wp2
    go_ret
    exact ⟨ret_str HF.out.symm, below_then hA.out b1⟩
  obtain ⟨G, hG⟩ : ∃ b, (x.method.toList == [71, 101, 116]) = b := ⟨_, rfl⟩
  obtain ⟨P, hP⟩ : ∃ b, (x.method.toList == [80, 117, 116]) = b := ⟨_, rfl⟩
  obtain ⟨H, hH⟩ : ∃ b, (x.method.toList == [72, 101, 97, 114]) = b := ⟨_, rfl⟩
  obtain ⟨L, hL⟩ : ∃ b, (x.method.toList == [76, 111, 97, 100]) = b := ⟨_, rfl⟩
  have hm := Pu.method_cases x.method.toList
  simp only [Pu.mGet, Pu.mPut, Pu.mHear, Pu.mLoad, hG, hP, hH, hL] at hm
  have HF : Hid (Pu.callT x = Pu.callTo G P H L x) := by rw [Hid, Pu.callT, hB, if_pos rfl, Pu.mGet, Pu.mPut, Pu.mHear, Pu.mLoad, hG, hP, hH, hL]
  have HO : Hid (Pu.callOf G P H L x = true) := by rw [Hid, ← hB, Pu.callB, Pu.mGet, Pu.mPut, Pu.mHear, Pu.mLoad, hG, hP, hH, hL]
  have HBX := hide hB
  clear hB
  unfold callV
  rcases hm with ⟨rfl, rfl, rfl, rfl⟩ | ⟨rfl, rfl, rfl, rfl⟩ | ⟨rfl, rfl, rfl, rfl⟩ | ⟨rfl, rfl, rfl, rfl⟩ | ⟨rfl, rfl, rfl, rfl⟩
  · have h8 : x.key.size ≤ 8 := by
      have h := HO.out
      simp [Pu.callOf] at h
      exact Pu.name_8 h.2.1
    have hz1 : ¬ 9223372036854775807 < 4 + x.key.size := by omega
    go_enter Tryd.func39, Tryd.ntmps39
    go_wp2_with fail
    refine (sIsCall_c x _ HW.out).mono ?_; rintro e w1 ⟨rfl, b1⟩
    rw [HBX.out]
    obtain ⟨c0, c1, c2, c3, cf⟩ := four_cells ((b1.block w.heap.size (by simp)).trans (heap_new rfl))
    go_wp2
    go_ret
    exact ⟨ret_str HF.out.symm, below_then hA.out b1⟩
  · have h8 : x.key.size ≤ 8 ∧ Pu.isNum x.value = true := by
      have h := HO.out
      simp [Pu.callOf] at h
      exact ⟨Pu.name_8 h.2.1, h.2.2⟩
    have hn3 := Pu.numB_3 h8.2
    have hnb := Pu.isNum_bd h8.2
    have hk8 := h8.1
    clear h8
    have hz1 : ¬ 9223372036854775807 < 4 + x.key.size := by omega
    have hz2 : ¬ 9223372036854775807 < 4 + x.key.size + 1 := by omega
    have hz3 : ¬ 9223372036854775807 < 4 + x.key.size + 1 + (Pu.numB x.value).size := by omega
    go_enter Tryd.func39, Tryd.ntmps39
    go_wp2_with fail
    refine (sIsCall_c x _ HW.out).mono ?_; rintro e w1 ⟨rfl, b1⟩
    rw [HBX.out]
    obtain ⟨c0, c1, c2, c3, cf⟩ := four_cells ((b1.block w.heap.size (by simp)).trans (heap_new rfl))
    have HB1 := hide (below_then hA.out b1)
    have hL1 : w.heap.size < w1.heap.size := by have := b1.size; simp at this; omega
    clear b1
    go_wp2_with fail
    have K0 : Below w1.heap.size w1 w1 := Below.refl _ _
    go_region_held3 (fun w' => w'.cell? ⟨w.heap.size, 1, none⟩ = some (.string x.key) ∧ w'.cell? ⟨w.heap.size, 2, none⟩ = some (.int .i64 x.value)) (go_keep)
      (first
        | (go_at_call 53;
            refine (sFormatNumber_c x.value _ (by omega) (by omega)).mono ?_;
            rintro e WX ⟨rfl, bX⟩;
            have KWX : Below w1.heap.size w1 WX := below_then (by first | exact K0 | exact K0.drew) bX;
            have KX : ∀ k : Nat, WX.cell? ⟨w.heap.size, k, none⟩ = _ := fun k => KWX.cell hL1))
    go_wp2
    go_ret
    exact ⟨ret_str HF.out.symm, below_then HB1.out KWX⟩
  · have hnb : Pu.isNum x.value = true := by
      have h := HO.out
      simp [Pu.callOf] at h
      exact h.2.2
    have hn3 := Pu.numB_3 hnb
    have hnb := Pu.isNum_bd hnb
    have hz1 : ¬ 9223372036854775807 < 5 + (Pu.numB x.value).size := by omega
    go_enter Tryd.func39, Tryd.ntmps39
    go_wp2_with fail
    refine (sIsCall_c x _ HW.out).mono ?_; rintro e w1 ⟨rfl, b1⟩
    rw [HBX.out]
    obtain ⟨c0, c1, c2, c3, cf⟩ := four_cells ((b1.block w.heap.size (by simp)).trans (heap_new rfl))
    have HB1 := hide (below_then hA.out b1)
    clear b1
    have K0 : Below w1.heap.size w1 w1 := Below.refl _ _
    go_wp2_with fail
    refine (sFormatNumber_c x.value _ (by omega) (by omega)).mono ?_; rintro e w2 ⟨rfl, b2⟩
    go_wp2
    go_ret
    exact ⟨ret_str HF.out.symm, below_then HB1.out b2⟩
  · have hz1 : ¬ 9223372036854775807 < 5 + x.text.size := by omega
    go_enter Tryd.func39, Tryd.ntmps39
    go_wp2_with fail
    refine (sIsCall_c x _ HW.out).mono ?_; rintro e w1 ⟨rfl, b1⟩
    rw [HBX.out]
    obtain ⟨c0, c1, c2, c3, cf⟩ := four_cells ((b1.block w.heap.size (by simp)).trans (heap_new rfl))
    go_wp2
    go_ret
    exact ⟨ret_str HF.out.symm, below_then hA.out b1⟩
  · go_enter Tryd.func39, Tryd.ntmps39
    go_wp2_with fail
    refine (sIsCall_c x _ HW.out).mono ?_; rintro e w1 ⟨rfl, b1⟩
    rw [HBX.out]
    obtain ⟨c0, c1, c2, c3, cf⟩ := four_cells ((b1.block w.heap.size (by simp)).trans (heap_new rfl))
    go_wp2
    go_ret
    exact ⟨ret_str HF.out.symm, below_then hA.out b1⟩
end Go.Proofs.YtabbgabdbkbjcaaDoor
