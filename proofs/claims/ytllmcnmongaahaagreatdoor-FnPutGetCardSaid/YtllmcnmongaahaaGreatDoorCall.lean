/- Contracts: calls. -/
import Derived.Test.YtllmcnmongaahaaGreatDoorM0
namespace Go.Proofs.YtllmcnmongaahaaGreatDoor
open Go.ChangeShapes Go.WideShapes Go.ChangeAt Go.RowKit
set_option maxRecDepth 100000
def callV (x : Pu.CallD) : Value := .agg #[.string x.method, .string x.key, .int .i64 x.value, .string x.text]
def CallD.wf (x : Pu.CallD) : Prop := x.method.size ≤ maxLen ∧ x.key.size ≤ maxLen ∧ (Lit.int .i64 x.value).wf = true ∧ x.text.size ≤ maxLen
def IsCallV (v : Value) (x : Pu.CallD) : Prop := CallD.wf x ∧ v = callV x
def Pu.mGet : List UInt8 := [71, 101, 116]
def Pu.mPut : List UInt8 := [80, 117, 116]
def Pu.mHear : List UInt8 := [72, 101, 97, 114]
def Pu.mLoad : List UInt8 := [76, 111, 97, 100]
/-- what a call is, by its method (Get, Put, Hear, Load: whether it is that one) -/
def Pu.callOf (g p h l : Bool) (x : Pu.CallD) : Bool :=
  !decide (Pu.abOf x.method.toList < 0) && (x.text.toList == [] || l) && (if g then Pu.nameL x.key.toList && x.value == 0 else if p then Pu.nameL x.key.toList && Pu.isNum x.value else if h then x.key.toList == [] && Pu.isNum x.value else x.key.toList == [] && x.value == 0)
def Pu.callB (x : Pu.CallD) : Bool := Pu.callOf (x.method.toList == Pu.mGet) (x.method.toList == Pu.mPut) (x.method.toList == Pu.mHear) (x.method.toList == Pu.mLoad) x
theorem Pu.method_cases (s : List UInt8) : ((s == Pu.mGet) = true ∧ (s == Pu.mPut) = false ∧ (s == Pu.mHear) = false ∧ (s == Pu.mLoad) = false) ∨ ((s == Pu.mGet) = false ∧ (s == Pu.mPut) = true ∧ (s == Pu.mHear) = false ∧ (s == Pu.mLoad) = false) ∨
    ((s == Pu.mGet) = false ∧ (s == Pu.mPut) = false ∧ (s == Pu.mHear) = true ∧ (s == Pu.mLoad) = false) ∨ ((s == Pu.mGet) = false ∧ (s == Pu.mPut) = false ∧ (s == Pu.mHear) = false ∧ (s == Pu.mLoad) = true) ∨ ((s == Pu.mGet) = false ∧ (s == Pu.mPut) = false ∧ (s == Pu.mHear) = false ∧ (s == Pu.mLoad) = false) := by
  by_cases h1 : s = Pu.mGet
  · subst h1; decide
  by_cases h2 : s = Pu.mPut
  · subst h2; decide
  by_cases h3 : s = Pu.mHear
  · subst h3; decide
  by_cases h4 : s = Pu.mLoad
  · subst h4; decide
  simp [h1, h2, h3, h4]
theorem four_cells {W : World} {g : Nat} {t : TypeId} {a b c d : Value} (h : W.heap[g]? = some (.cells #[a, b, c, d] t (0, 0))) :
    W.cell? ⟨g, 0, none⟩ = some a ∧ W.cell? ⟨g, 1, none⟩ = some b ∧ W.cell? ⟨g, 2, none⟩ = some c ∧ W.cell? ⟨g, 3, none⟩ = some d ∧ ∀ j, W.frozen? ⟨g, j, none⟩ = false :=
  ⟨cell_of_row W g 0 _ t (0, 0) h, cell_of_row W g 1 _ t (0, 0) h, cell_of_row W g 2 _ t (0, 0) h, cell_of_row W g 3 _ t (0, 0) h, fun j => frozen_of_row W g j _ t h⟩
set_option maxHeartbeats 2000000 in
theorem iIsCall_c (x : Pu.CallD) (w : World) (hw : CallD.wf x) :
    Calls Tryz.prog 40 #[callV x] w fun e w' => e = .returned (.bool (Pu.callB x)) ∧ Below w.heap.size w w' := by
  unfold callV
  have HK := hide hw.2.1
  clear hw
  obtain ⟨G, hG⟩ : ∃ b, (x.method.toList == [71, 101, 116]) = b := ⟨_, rfl⟩
  obtain ⟨P, hP⟩ : ∃ b, (x.method.toList == [80, 117, 116]) = b := ⟨_, rfl⟩
  obtain ⟨H, hH⟩ : ∃ b, (x.method.toList == [72, 101, 97, 114]) = b := ⟨_, rfl⟩
  obtain ⟨L, hL⟩ : ∃ b, (x.method.toList == [76, 111, 97, 100]) = b := ⟨_, rfl⟩
  have hm := Pu.method_cases x.method.toList
  simp only [Pu.mGet, Pu.mPut, Pu.mHear, Pu.mLoad, hG, hP, hH, hL] at hm
  have HC : Hid (Pu.callB x = Pu.callOf G P H L x) := by rw [Hid, Pu.callB, Pu.mGet, Pu.mPut, Pu.mHear, Pu.mLoad, hG, hP, hH, hL]
  rw [HC.out]
  have hA : Hid (Below w.heap.size w (w.alloc (.cells #[.string x.method, .string x.key, .int .i64 x.value, .string x.text] 37))) := below_alloc (Below.refl _ _) _
  by_cases hab : Pu.abOf x.method.toList < 0
  · have HF : Hid (Pu.callOf G P H L x = false) := by rw [Hid, Pu.callOf, decide_eq_true hab]; rfl
    go_enter Tryz.func40, Tryz.ntmps40
    go_wp2_with fail
    refine (iAbilityOfMethod_c _ _).mono ?_; rintro e w1 ⟨rfl, hb1⟩
    go_wp2_with fail
    go_ret
    exact ⟨ret_bool HF.out.symm, below_then hA.out hb1⟩
  · have hab' : 0 ≤ Pu.abOf x.method.toList := by omega
    have hdec : decide (Pu.abOf x.method.toList < 0) = false := decide_eq_false hab
    have HD := hide hdec
    clear hdec
    rcases ht : (x.text.toList == []) <;> rcases hm with ⟨rfl, rfl, rfl, rfl⟩ | ⟨rfl, rfl, rfl, rfl⟩ | ⟨rfl, rfl, rfl, rfl⟩ | ⟨rfl, rfl, rfl, rfl⟩ | ⟨rfl, rfl, rfl, rfl⟩
    all_goals
      have HT := hide ht
      go_enter Tryz.func40, Tryz.ntmps40
      go_wp2_with fail
      refine (iAbilityOfMethod_c _ _).mono ?_; rintro e w1 ⟨rfl, hb1⟩
      obtain ⟨c0, c1, c2, c3, cf⟩ := four_cells ((hb1.block w.heap.size (by simp)).trans (heap_new rfl))
      have HB := hide (below_then hA.out hb1)
      clear hb1
      (go_wp2_with (first | (go_at_call 72; refine (iIsName_c _ _ HK.out).mono ?_; rintro e w' ⟨rfl, rfl⟩) | (go_at_call 73; refine (isNumber_c _ _).mono ?_; rintro e w' ⟨rfl, rfl⟩))) <;> (go_ret; exact ⟨ret_bool (by rw [Pu.callOf, HD.out, HT.out]; clear HC HD HT HB c0 c1 c2 c3 cf; simp_all), HB.out⟩)
theorem Pu.wantF_zero (s : List UInt8) : Pu.wantF s = 0 ↔ Pu.abOf s < 0 := by
  unfold Pu.wantF
  by_cases h : Pu.abOf s < 0
  · simp [h]
  · rw [if_neg h]
    have hp : (0 : Int) < 2 ^ (Pu.abOf s).toNat := Int.pow_pos (by decide)
    exact ⟨fun e => absurd e (Int.ne_of_gt hp), fun e => absurd e h⟩
set_option maxHeartbeats 4000000 in
theorem sIsCall_c (x : Pu.CallD) (w : World) (hw : CallD.wf x) :
    Calls Tryz.prog 51 #[callV x] w fun e w' => e = .returned (.bool (Pu.callB x)) ∧ Below w.heap.size w w' := by
  unfold callV
  have HK := hide hw.2.1
  clear hw
  obtain ⟨G, hG⟩ : ∃ b, (x.method.toList == [71, 101, 116]) = b := ⟨_, rfl⟩
  obtain ⟨P, hP⟩ : ∃ b, (x.method.toList == [80, 117, 116]) = b := ⟨_, rfl⟩
  obtain ⟨H, hH⟩ : ∃ b, (x.method.toList == [72, 101, 97, 114]) = b := ⟨_, rfl⟩
  obtain ⟨L, hL⟩ : ∃ b, (x.method.toList == [76, 111, 97, 100]) = b := ⟨_, rfl⟩
  have hm := Pu.method_cases x.method.toList
  simp only [Pu.mGet, Pu.mPut, Pu.mHear, Pu.mLoad, hG, hP, hH, hL] at hm
  have HC : Hid (Pu.callB x = Pu.callOf G P H L x) := by rw [Hid, Pu.callB, Pu.mGet, Pu.mPut, Pu.mHear, Pu.mLoad, hG, hP, hH, hL]
  rw [HC.out]
  have hA : Hid (Below w.heap.size w (w.alloc (.cells #[.string x.method, .string x.key, .int .i64 x.value, .string x.text] 37))) := below_alloc (Below.refl _ _) _
  by_cases hab : Pu.abOf x.method.toList < 0
  · have HF : Hid (Pu.callOf G P H L x = false) := by rw [Hid, Pu.callOf, decide_eq_true hab]; rfl
    have h0 := (Pu.wantF_zero _).2 hab
    clear hab
    rw [HF.out]
    rcases hm with ⟨rfl, rfl, rfl, rfl⟩ | ⟨rfl, rfl, rfl, rfl⟩ | ⟨rfl, rfl, rfl, rfl⟩ | ⟨rfl, rfl, rfl, rfl⟩ | ⟨rfl, rfl, rfl, rfl⟩
    all_goals
      go_enter Tryz.func51, Tryz.ntmps51
      go_wp2_with fail
      refine (sWantOf_c _ _).mono ?_; rintro e w1 ⟨rfl, hb1⟩
      go_wp2_with fail
      go_ret
      exact ⟨rfl, below_then hA.out hb1⟩
  · have hdec : decide (Pu.abOf x.method.toList < 0) = false := decide_eq_false hab
    have HD := hide hdec
    have h0 : ¬ Pu.wantF x.method.toList = 0 := fun e => hab ((Pu.wantF_zero _).1 e)
    clear hdec hab
    rcases ht : (x.text.toList == []) <;> rcases hm with ⟨rfl, rfl, rfl, rfl⟩ | ⟨rfl, rfl, rfl, rfl⟩ | ⟨rfl, rfl, rfl, rfl⟩ | ⟨rfl, rfl, rfl, rfl⟩ | ⟨rfl, rfl, rfl, rfl⟩
    all_goals
      have HT := hide ht
      go_enter Tryz.func51, Tryz.ntmps51
      go_wp2_with fail
      refine (sWantOf_c _ _).mono ?_; rintro e w1 ⟨rfl, hb1⟩
      obtain ⟨c0, c1, c2, c3, cf⟩ := four_cells ((hb1.block w.heap.size (by simp)).trans (heap_new rfl))
      have HB := hide (below_then hA.out hb1)
      clear hb1
      (go_wp2_with (go_at_call 74; refine (sIsName_c _ _ HK.out).mono ?_; rintro e w' ⟨rfl, rfl⟩)) <;> (go_ret; exact ⟨ret_bool (by rw [Pu.callOf, HD.out, HT.out, Pu.isNum]; clear HC HD HT HB c0 c1 c2 c3 cf h0; simp_all <;> first | omega | (rw [Bool.eq_iff_iff]; simp; omega)), HB.out⟩)
theorem szCall_c (x : Pu.CallD) (w : World) (hw : CallD.wf x) :
    Calls Tryz.prog 12 #[callV x, .int .i64 1048576] w fun e w' => (e = .returned (.int .i64 (-1)) ∨ ∃ n : Int, 0 ≤ n ∧ e = .returned (.int .i64 n)) ∧ Below w.heap.size w w' := by
  obtain ⟨h1, h2, h3, h4⟩ := hw
  unfold maxLen at h1 h2 h4
  clear h3
  unfold callV
  go_enter Tryz.func12, Tryz.ntmps12
  go_wp2_with fail
  all_goals go_ret
  all_goals first
    | exact ⟨.inl rfl, below_alloc (Below.refl _ _) _⟩
    | exact ⟨.inr ⟨_, by omega, rfl⟩, below_alloc (Below.refl _ _) _⟩
theorem toCall_c (x : Pu.CallD) (w : World) :
    Calls Tryz.prog 15 #[callV x] w fun e w' => e = .returned (callV x) ∧ Below w.heap.size w w' := by
  unfold callV
  go_enter Tryz.func15, Tryz.ntmps15
  go_wp2
  exact bodyPost_ret (v := .agg #[.string x.method, .string x.key, .int .i64 x.value, .string x.text]) (by simp [results, Tryz.results15, go_sem]) rfl ⟨rfl, below_alloc (below_alloc (below_alloc (Below.refl _ _) _) _) _⟩
end Go.Proofs.YtllmcnmongaahaaGreatDoor
