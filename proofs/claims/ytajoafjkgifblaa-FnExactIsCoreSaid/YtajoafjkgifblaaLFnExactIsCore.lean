/- FnExactIsCore: for every input the law returns true, and its arguments read afterwards as they read before. No condition besides those of the statement itself. -/
import Derived.Test.YtajoafjkgifblaaLaw
import Derived.Test.YtajoafjkgifblaaCore2
import Derived.Test.YtajoafjkgifblaaOpenCore
import Derived.ShutString
namespace Go.Proofs.Ytajoafjkgifblaa.fnExactIsCore
open Go.ChangeShapes Go.WideShapes Go.ChangeAt Go.RowKit
open Go.ChangeMaps (open_string shut_string)
set_option linter.unusedVariables false

theorem own : ownKnob Try.prog.godebug = none := by kernel_rfl

/-- The walk: the Go text returns true. -/
theorem walk (w : World) (v0 : Value) (a0 : Pu.CoreD) (hv0 : RdCore w v0 a0) :
    Calls Try.prog 5 #[v0] w fun e w' => e = .returned (.bool true) ∧ Below w.heap.size w w' := by
  obtain ⟨wf0, s0, rfl, r0, z0⟩ := hv0
  have Z0 := hide z0
  have WF := hide wf0
  clear z0 wf0
  by_cases hs : (a0.kind.size + a0.cells.length + Pu.tot (a0.cells.map (·.key)) : Int) ≤ 1048576
  · have hsz : Hid (Pu.szCore a0 1048576 = 1048576 - (a0.kind.size + a0.cells.length + Pu.tot (a0.cells.map (·.key)))) := by rw [Hid, Pu.szCore, if_pos hs]
    have hln : a0.cells.length ≤ 1048576 := by omega
    unfold coreV
    go_enter Try.func5, Try.ntmps5
    obtain ⟨w0, hw0⟩ : ∃ w0, Hid (w.alloc (.cells #[.string a0.kind, .bool a0.on, .bool a0.broken, s0, .int .i64 a0.count] 30 : Obj) = w0) := ⟨_, rfl⟩
    have b0 : Below w.heap.size w w0 := by rw [← hw0.out]; exact below_alloc (Below.refl _ _) _
    have bx : ∀ W : World, Below w0.heap.size w0 W → W.heap[w.heap.size]? = some (.cells #[.string a0.kind, .bool a0.on, .bool a0.broken, s0, .int .i64 a0.count] 30 : Obj) := fun W h => (h.block w.heap.size (by rw [← hw0.out]; simp)).trans (by rw [← hw0.out]; exact heap_new rfl)
    have BX := hide bx
    clear bx
    go_wp2_with fail
    rw [hw0.out]
    refine (szCore_c a0 s0 1048576 _ WF.out (RdCells.below ⟨r0, Z0.out⟩ b0) (by omega) (by omega)).mono ?_; rintro e W1 ⟨rfl, b1⟩
    rw [hsz.out]
    have q0 := RdL.below r0 b0 (Nat.le_refl _)
    obtain ⟨_, _, _, _, _, _⟩ := five_cells (BX.out _ b1)
    go_wp2_with fail
    refine (toCore_c _ _ _ (RdL.below q0 b1 (Nat.le_refl _)) hln).mono ?_; rintro e W2 ⟨v2, rfl, o2, b2⟩
    have r2 : RdL W2 2 cellEn v2 a0.cells := o2.rd (fun _ => rfl)
    have c2 := below_then b1 b2
    go_wp2_with fail
    refine (sIsCore_c _ _ _ ⟨r2, Z0.out⟩).mono ?_; rintro e W3 ⟨rfl, b3⟩
    have c3 := below_then c2 b3
    obtain ⟨_, _, _, _, _, _⟩ := five_cells (BX.out _ c3)
    go_wp2_with fail
    refine (toCore_c _ _ _ (RdL.below q0 c3 (Nat.le_refl _)) hln).mono ?_; rintro e W4 ⟨v4, rfl, o4, b4⟩
    have r4 : RdL W4 2 cellEn v4 a0.cells := o4.rd (fun _ => rfl)
    have c4 := below_then c3 b4
    obtain ⟨A4, k4, rfl⟩ := o4.shape
    unfold coreV
    go_wp2_with fail
    refine (iIsCore_c a0 _ _ WF.out (RdCells.below ⟨r4, Z0.out⟩ (below_alloc (Below.refl _ _) _))).mono ?_; rintro e W5 ⟨rfl, b5⟩
    have BY := hide (b5.block W4.heap.size (by simp))
    have d5 : Below W4.heap.size W4 W5 := below_then (below_alloc (Below.refl _ _) _) b5
    have hy5 : W4.heap.size < W5.heap.size := by have := b5.size; simp at this; omega
    have c5 := below_then c4 d5
    obtain ⟨_, _, _, _, _, _⟩ := five_cells (BY.out.trans (heap_new rfl))
    obtain ⟨_, _, _, _, _, _⟩ := five_cells (BX.out _ c5)
    go_wp2_with fail
    have hx5 : w.heap.size < W4.heap.size := by have := c4.size; have h2 : w.heap.size < w0.heap.size := (by rw [← hw0.out]; simp); omega
    have hz5 : w.heap.size < W5.heap.size := by omega
    have K0 : Below W5.heap.size W5 W5 := Below.refl _ _
    have KD : ∀ w' : World, Below W5.heap.size W5 w' → Below W5.heap.size W5 w'.drew := fun _ h => h.drew
    go_region_held3 (fun w' => Below W5.heap.size W5 w' ∧ w'.cell? ⟨W4.heap.size, 0, none⟩ = some (.string a0.kind) ∧ w'.cell? ⟨W4.heap.size, 1, none⟩ = some (.bool a0.on) ∧ w'.cell? ⟨W4.heap.size, 2, none⟩ = some (.bool a0.broken) ∧ w'.cell? ⟨W4.heap.size, 3, none⟩ = some (.slice A4 a0.cells.length k4) ∧ w'.cell? ⟨W4.heap.size, 4, none⟩ = some (.int .i64 a0.count) ∧ w'.cell? ⟨w.heap.size, 0, none⟩ = some (.string a0.kind) ∧ w'.cell? ⟨w.heap.size, 1, none⟩ = some (.bool a0.on) ∧ w'.cell? ⟨w.heap.size, 2, none⟩ = some (.bool a0.broken) ∧ w'.cell? ⟨w.heap.size, 3, none⟩ = some (s0) ∧ w'.cell? ⟨w.heap.size, 4, none⟩ = some (.int .i64 a0.count)) (go_keep)
      (first
           | (go_at_call 18; refine (toCore_c a0 s0 _ (RdL.below (RdL.below q0 c5 (Nat.le_refl _)) (And.left (by assumption)) (Nat.le_refl _)) hln).mono ?_; rintro e W6 ⟨v6, rfl, o6, b6⟩;
               have KW : Below W5.heap.size W5 W6 := below_then (And.left (by assumption)) b6;
               have KX : ∀ k : Nat, W6.cell? ⟨W4.heap.size, k, none⟩ = _ := fun k => b6.cell (Nat.lt_of_lt_of_le hy5 (Below.size (And.left (by assumption))));
               have KY : ∀ k : Nat, W6.cell? ⟨w.heap.size, k, none⟩ = _ := fun k => b6.cell (Nat.lt_of_lt_of_le hz5 (Below.size (And.left (by assumption)))))
           | (go_at_call 20; refine (eqCore_c a0 a0 _ _ _ rfl (RdL.below r4 (below_then d5 (And.left (by assumption))) (Nat.le_refl _)) (RdL.below (o6.rd (fun _ => rfl)) (by first | exact Below.refl _ _ | exact (Below.refl _ _).drew | exact (Below.refl _ _).drew.drew) (Nat.le_refl _))).mono ?_; rintro e W7 ⟨rfl, b7⟩;
               have KW7 : Below W5.heap.size W5 W7 := below_then (And.left (by assumption)) b7;
               have KX7 : ∀ k : Nat, W7.cell? ⟨W4.heap.size, k, none⟩ = _ := fun k => b7.cell (Nat.lt_of_lt_of_le hy5 (Below.size (And.left (by assumption))));
               have KY7 : ∀ k : Nat, W7.cell? ⟨w.heap.size, k, none⟩ = _ := fun k => b7.cell (Nat.lt_of_lt_of_le hz5 (Below.size (And.left (by assumption))))))
    go_wp2
    go_ret
    exact ⟨rfl, below_then b0 (below_then c5 (And.left (by assumption)))⟩
  · have hsz : Hid (Pu.szCore a0 1048576 = -1) := by rw [Hid, Pu.szCore, if_neg hs]
    unfold coreV
    go_enter Try.func5, Try.ntmps5
    obtain ⟨w0, hw0⟩ : ∃ w0, Hid (w.alloc (.cells #[.string a0.kind, .bool a0.on, .bool a0.broken, s0, .int .i64 a0.count] 30 : Obj) = w0) := ⟨_, rfl⟩
    have b0 : Below w.heap.size w w0 := by rw [← hw0.out]; exact below_alloc (Below.refl _ _) _
    have bx : ∀ W : World, Below w0.heap.size w0 W → W.heap[w.heap.size]? = some (.cells #[.string a0.kind, .bool a0.on, .bool a0.broken, s0, .int .i64 a0.count] 30 : Obj) := fun W h => (h.block w.heap.size (by rw [← hw0.out]; simp)).trans (by rw [← hw0.out]; exact heap_new rfl)
    have BX := hide bx
    clear bx
    go_wp2_with fail
    rw [hw0.out]
    refine (szCore_c a0 s0 1048576 _ WF.out (RdCells.below ⟨r0, Z0.out⟩ b0) (by omega) (by omega)).mono ?_; rintro e W1 ⟨rfl, b1⟩
    rw [hsz.out]
    go_wp2
    go_ret
    exact ⟨rfl, below_then b0 b1⟩

set_option maxRecDepth 100000 in
theorem lifted (os : Os) (started : os.Started) (H : Type) (enc : TypeId × Value → H) :
    ReturnsInHanded {} Try.checked os 5 .any (Rows.fnExactIsCoreSpec.pre6 enc Try.prog Try.f5 Rows.fnExactIsCoreRow.domain false) (Rows.fnExactIsCoreSpec.post enc Try.prog Try.f5 false true false false) := by
  refine returnsInHanded_of_change (C := Try.checked) own started (by kernel_rfl) Try.func5
    (ChangeSpec.witness6 (enc := enc) (C := Try.checked) false ⟨#[], #[.agg #[.string ByteArray.empty, .bool false, .bool false, .slice none 0 0, .int .i64 0]], []⟩ 8 (by kernel_rfl) (by kernel_rfl) (by kernel_rfl) (by kernel_rfl)) ?_
  intro W base args ds gs before hval0 hW _ _
  have hval : ∀ (j : Nat) t v, Try.f5.params[j]? = some t → args[j]? = some v → Value.okWide Try.prog W .any base t v := hval0
  have hW' := hW
  obtain ⟨p, q, hA0, hV, rfl, hfz, hnd⟩ := hW
  have hA : DataW.TrodAll enc Try.prog W 0 (fun _ => true) true Try.f5.params.toList args.toList ds p := hA0
  rw [Try.params5] at hA hval
  obtain ⟨v0, vs0, d0, ds0, p0, q0, hargs, rfl, rfl, h0, r0⟩ := trodAll_cons hA
  obtain ⟨rfl, rfl, rfl⟩ := trodAll_nil r0
  obtain rfl : args = #[v0] := by cases args; simp_all
  obtain ⟨rfl, rfl⟩ := trodVars_none hV
  obtain ⟨a0, hv0⟩ := open_core (hval 0 30 v0 rfl rfl) h0
  refine (walk W v0 a0 hv0).mono fun e W' ⟨he, hg⟩ => ?_
  subst he
  exact ⟨_, rfl, law_post (tb := 4) (by kernel_rfl) (by kernel_rfl) hW' hg rfl Try.underlying4 rfl rfl rfl rfl⟩

theorem over : Rows.fnExactIsCoreRow.holds Try.pinned (OpenSpec.ofChange Rows.fnExactIsCoreSpec) :=
  OpenClaim.holds_of_wide 5 Try.f5 rfl rfl rfl rfl rfl rfl rfl ⟨rfl, rfl, rfl, rfl, rfl⟩ rfl rfl rfl rfl rfl (by kernel_rfl) Try.func5 (by kernel_rfl)
    (of_decide_eq_true (by kernel_rfl)) (by unfold Func.isWrapper; first | (rw [if_pos (by decide +kernel)]; kernel_rfl) | (rw [if_neg (by decide +kernel)]; exact ⟨rfl, rfl⟩))
    (fun os started H enc _ => lifted os started H enc)

/-- The statement. -/
theorem proved : Rows.FnExactIsCoreSaid :=
  over
#print axioms proved
end Go.Proofs.Ytajoafjkgifblaa.fnExactIsCore
