/- Contracts: cores, 2. -/
import Derived.Test.YtnabpefjcgehiaaM0
import Derived.Test.YtnabpefjcgehiaaFace
import Derived.Deep.RegionHeld3
import Derived.Test.YtnabpefjcgehiaaM1
namespace Go.Proofs.Ytnabpefjcgehiaa
open Go.ChangeShapes Go.WideShapes Go.ChangeAt Go.RowKit
set_option maxRecDepth 100000
set_option maxHeartbeats 2000000 in
theorem iIsCore_c (p : Pu.CoreD) (s : Value) (w : World) (_hw : CoreD.wf p) (hs : RdCells w s p.cells) :
    Calls Try.prog 25 #[coreV p s] w fun e w' => e = .returned (.bool (Pu.coreB p)) ∧ Below w.heap.size w w' := by
  unfold coreV
  go_enter Try.func25, Try.ntmps25
  obtain ⟨F, HF⟩ : ∃ F, Hid (Pu.kindF p.kind.toList = F) := ⟨_, rfl⟩
  rcases hkb : Pu.kindOk p.kind.toList
  · have HK := hide hkb
    go_wp2_with fail
    refine (iKindFace_c _ _).mono ?_; rintro e w' ⟨rfl, rfl⟩
    rw [HK.out]
    clear hkb
    go_wp2_with fail
    go_ret
    exact ⟨ret_bool (by rw [Pu.coreB, HK.out]; rfl), below_alloc (Below.refl _ _) _⟩
  have HK := hide hkb
  clear hkb
  go_wp2_with fail
  refine (iKindFace_c _ _).mono ?_; rintro e w' ⟨rfl, rfl⟩
  rw [HK.out, HF.out]
  go_wp2_with fail
  refine (iIsCells_c _ _ _ (RdCells.below hs (below_alloc (Below.refl _ _) _))).mono ?_; rintro e w1 ⟨rfl, hb1⟩
  rcases hcb : Pu.cellsB p.cells
  · have HC := hide hcb
    clear hcb
    go_wp2_with fail
    go_ret
    exact ⟨ret_bool (by rw [Pu.coreB, HC.out]; simp), (below_alloc (Below.refl _ _) _).trans (hb1.mono (by simp))⟩
  have HC := hide hcb
  clear hcb
  obtain ⟨A, c, rfl, hlc, hcm, hA⟩ := hs.1.open_
  obtain ⟨a0, a1, a2, a3, a4, af⟩ := five_cells ((hb1.block w.heap.size (by simp)).trans (heap_new rfl))
  have HB : Below w.heap.size w w1 := (below_alloc (Below.refl _ _) _).trans (hb1.mono (by simp))
  clear hb1 hA hlc hcm
  have hb2 : bits .and .i64 F 2 = if Pu.hasB F 1 then 2 else 0 := by
    rw [← HF.out]; rcases Pu.kind_faces p.kind.toList with h | h | h | h | h | h | h | h <;> rw [h] <;> decide +kernel
  have hb0 : bits .and .i64 F 1 = if Pu.hasB F 0 then 1 else 0 := by
    rw [← HF.out]; rcases Pu.kind_faces p.kind.toList with h | h | h | h | h | h | h | h <;> rw [h] <;> decide +kernel
  by_cases hl : 0 < p.cells.length
  · rcases h1 : Pu.hasB F 1
    · rw [h1] at hb2
      go_wp2_with fail
      go_ret
      exact ⟨ret_bool (by rw [Pu.coreB, HF.out, h1, decide_eq_true hl]; simp), HB⟩
    · rw [h1] at hb2
      rcases h0 : Pu.hasB F 0 <;> rw [h0] at hb0 <;> (go_wp2_with (go_at_call 28; refine (isNumber_c _ _).mono ?_; rintro e w' ⟨rfl, rfl⟩)) <;> (go_ret; exact ⟨ret_bool (by rw [Pu.coreB, HK.out, HC.out, HF.out, h1, h0]; clear HK HC HF HB hb0 hb2 hs a0 a1 a2 a3 a4 af h1 h0; simp_all), HB⟩)
  · have hl0 : p.cells.length = 0 := by omega
    have hl1 : p.cells = [] := List.eq_nil_of_length_eq_zero hl0
    have HL := hide hl1
    clear hl1
    rcases h0 : Pu.hasB F 0 <;> rw [h0] at hb0 <;> (go_wp2_with (go_at_call 28; refine (isNumber_c _ _).mono ?_; rintro e w' ⟨rfl, rfl⟩)) <;> (go_ret; exact ⟨ret_bool (by rw [Pu.coreB, HK.out, HC.out, HF.out, hl0, h0]; clear HK HC HF HB HL hb0 hb2 hs a0 a1 a2 a3 a4 af h0 hl; simp_all), HB⟩)
set_option maxHeartbeats 2000000 in
theorem sIsCore_c (p : Pu.CoreD) (s : Value) (w : World) (hs : RdCells w s p.cells) :
    Calls Try.prog 69 #[coreV p s] w fun e w' => e = .returned (.bool (Pu.coreB p)) ∧ Below w.heap.size w w' := by
  unfold coreV
  go_enter Try.func69, Try.ntmps69
  obtain ⟨F, HF⟩ : ∃ F, Hid (Pu.kindF p.kind.toList = F) := ⟨_, rfl⟩
  have hF0 : 0 ≤ F := by have := (Pu.kind_bd p.kind.toList).1; rw [HF.out] at this; exact this
  rcases hkb : Pu.kindOk p.kind.toList
  · have HK := hide hkb
    go_wp2_with fail
    refine (sKindFace_c _ _).mono ?_; rintro e w0 ⟨rfl, hb0⟩
    obtain ⟨a0, a1, a2, a3, a4, af⟩ := five_cells ((hb0.block w.heap.size (by simp)).trans (heap_new rfl))
    have HB0 : Below w.heap.size w w0 := (below_alloc (Below.refl _ _) _).trans (hb0.mono (by simp))
    have hsz : w.heap.size < w0.heap.size := by have := hb0.size; simp at this; omega
    rw [HK.out, HF.out]
    clear hkb
    go_wp2_with (go_at_call 58; refine (l2Has_c _ _ _ (by omega) (by omega) (by omega)).mono ?_; rintro e w' ⟨rfl, rfl⟩)
    go_ret
    exact ⟨ret_bool (by rw [Pu.coreB, HK.out]; rfl), HB0⟩
  have HK := hide hkb
  clear hkb
  go_wp2_with fail
  refine (sKindFace_c _ _).mono ?_; rintro e w0 ⟨rfl, hb0⟩
  obtain ⟨a0, a1, a2, a3, a4, af⟩ := five_cells ((hb0.block w.heap.size (by simp)).trans (heap_new rfl))
  have HB0 : Below w.heap.size w w0 := (below_alloc (Below.refl _ _) _).trans (hb0.mono (by simp))
  have hsz : w.heap.size < w0.heap.size := by have := hb0.size; simp at this; omega
  rw [HK.out, HF.out]
  go_wp2_with fail
  go_at_call 58; refine (l2Has_c _ _ _ (by omega) (by omega) (by omega)).mono ?_; rintro e w' ⟨rfl, rfl⟩
  go_wp2_with fail
  refine (sIsCells_c _ _ _ (RdCells.below hs HB0)).mono ?_; rintro e w1 ⟨rfl, hb1⟩
  rcases hcb : Pu.cellsB p.cells
  · have HC := hide hcb
    clear hcb
    go_wp2_with fail
    go_ret
    exact ⟨ret_bool (by rw [Pu.coreB, HC.out]; simp), below_then HB0 hb1⟩
  have HC := hide hcb
  clear hcb
  obtain ⟨A, c, rfl, hlc, hcm, hA⟩ := hs.1.open_
  obtain ⟨a0, a1, a2, a3, a4, af⟩ := five_cells ((hb1.block w.heap.size hsz).trans ((hb0.block w.heap.size (by simp)).trans (heap_new rfl)))
  have HB : Below w.heap.size w w1 := below_then HB0 hb1
  clear hb1 hA hlc hcm hb0
  by_cases hl : 0 < p.cells.length
  · rcases h1 : Pu.hasB F 1
    · (go_wp2_with (go_at_call 58; refine (l2Has_c _ _ _ (by omega) (by omega) (by omega)).mono ?_; rintro e w' ⟨rfl, rfl⟩))
      go_ret
      exact ⟨ret_bool (by rw [Pu.coreB, HF.out, h1, decide_eq_true hl]; simp), HB⟩
    · (go_wp2_with (go_at_call 58; refine (l2Has_c _ _ _ (by omega) (by omega) (by omega)).mono ?_; rintro e w' ⟨rfl, rfl⟩)) <;> (go_ret; exact ⟨ret_bool (by rw [Pu.coreB, HK.out, HC.out, HF.out, h1, Pu.isNum]; clear HK HC HF HB HB0 hs a0 a1 a2 a3 a4 af h1; simp_all <;> omega), HB⟩)
  · have hl0 : p.cells.length = 0 := by omega
    (go_wp2_with (go_at_call 58; refine (l2Has_c _ _ _ (by omega) (by omega) (by omega)).mono ?_; rintro e w' ⟨rfl, rfl⟩)) <;> (go_ret; exact ⟨ret_bool (by rw [Pu.coreB, HK.out, HC.out, HF.out, hl0, Pu.isNum]; clear HK HC HF HB HB0 hs a0 a1 a2 a3 a4 af hl; simp_all <;> omega), HB⟩)
end Go.Proofs.Ytnabpefjcgehiaa
