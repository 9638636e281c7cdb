/- FnExactMethodsOf: for every input the law returns true, and its arguments read afterwards as they read before. No condition besides those of the statement itself. -/
import Derived.Test.YtcnhglellnglgaaLaw
import Derived.Test.YtcnhglellnglgaaStrs
import Derived.Test.YtcnhglellnglgaaMark
import Derived.Test.YtcnhglellnglgaaOpen
import Derived.Test.YtcnhglellnglgaaAsc
import Derived.Test.YtcnhglellnglgaaMeths
import Derived.ShutString
namespace Go.Proofs.Ytcnhglellnglgaa.fnExactMethodsOf
open Go.ChangeShapes Go.WideShapes Go.ChangeAt Go.RowKit
set_option maxRecDepth 100000
open Go.ChangeMaps (open_string shut_string)
set_option linter.unusedVariables false

theorem own : ownKnob Try.prog.godebug = none := by kernel_rfl

/-- The walk: the Go text returns true. -/
theorem walk (w : World) (a0 : Int) (w0 : (Lit.int .i64 a0).wf = true) :
    Calls Try.prog 4 #[.int .i64 a0] w fun e w' => e = .returned (.bool true) ∧ Below w.heap.size w w' := by
  have hml : (Pu.methsF a0).length ≤ 12 := Pu.methsF_len a0
  go_enter Try.func4, Try.ntmps4
  go_wp2_with fail
  refine (sFaceMethods_c _ _).mono ?_; rintro e W1 ⟨v1, rfl, o1, b1⟩
  go_wp2_with fail
  refine (iFaceMethods_c _ _).mono ?_; rintro e W2 ⟨v2, rfl, o2, b2⟩
  have r1 : RdStr W1 v1 _ := o1.rd (fun _ => rfl)
  have r2 : RdStr W2 v2 _ := o2.rd (fun _ => rfl)
  go_wp2_with fail
  refine (eqStringS_c _ _ _ _ rfl _ r2 (RdL.below r1 b2 (Nat.le_refl _))).mono ?_; rintro e W3 ⟨rfl, b3⟩
  have c3 : Below W1.heap.size W1 W3 := below_then b2 b3
  have g3 := o2.below b3 (Nat.le_refl _)
  go_wp2_with fail
  refine (markStringS_c _ _ _ _ _ g3 (by omega) (by omega) (by omega)).mono ?_; rintro e W4 ⟨rfl, o4, h4⟩
  have c4 : Below W1.heap.size W1 W4 := c3.grown h4 c3.size (fun k hk => (g3.lt hk).1)
  have r4 : RdStr W4 v2 _ := o4.rd (fun _ => rfl)
  go_wp2_with fail
  refine (heldStringS_c _ _ _ _ r4 (by omega) (by omega) (by omega)).mono ?_; rintro e W5 ⟨rfl, b5⟩
  have c5 : Below W1.heap.size W1 W5 := below_then c4 b5
  go_wp2_with fail
  refine (iFaceMethods_c _ _).mono ?_; rintro e W6 ⟨v3, rfl, o6, b6⟩
  have r6 : RdStr W6 v3 _ := o6.rd (fun _ => rfl)
  have c6 : Below W1.heap.size W1 W6 := below_then c5 b6
  go_wp2_with fail
  refine (eqStringS_c _ _ _ _ rfl _ r6 (RdL.below r1 c6 (Nat.le_refl _))).mono ?_; rintro e W7 ⟨rfl, b7⟩
  have c7 : Below W1.heap.size W1 W7 := below_then c6 b7
  have d7 : Below W4.heap.size W4 W7 := below_then (below_then b5 b6) b7
  go_wp2_with fail
  refine (heldStringS_c _ _ _ _ (RdL.below r4 d7 (Nat.le_refl _)) (by omega) (by omega) (by omega)).mono ?_; rintro e W8 ⟨rfl, b8⟩
  go_wp2
  go_ret
  exact ⟨rfl, below_then (below_then b1 c7) b8⟩

set_option maxRecDepth 100000 in
theorem lifted (os : Os) (started : os.Started) (H : Type) (enc : TypeId × Value → H) :
    ReturnsInHanded {} Try.checked os 4 .any (Rows.fnExactMethodsOfSpec.pre6 enc Try.prog Try.f4 Rows.fnExactMethodsOfRow.domain false) (Rows.fnExactMethodsOfSpec.post enc Try.prog Try.f4 false true false false) := by
  refine returnsInHanded_of_change (C := Try.checked) own started (by kernel_rfl) Try.func4
    (ChangeSpec.witness6 (enc := enc) (C := Try.checked) false ⟨#[], #[.int .i64 0], []⟩ 8 (by kernel_rfl) (by kernel_rfl) (by kernel_rfl) (by kernel_rfl)) ?_
  intro W base args ds gs before hval0 hW _ _
  have hval : ∀ (j : Nat) t v, Try.f4.params[j]? = some t → args[j]? = some v → Value.okWide Try.prog W .any base t v := hval0
  have hW' := hW
  obtain ⟨p, q, hA0, hV, rfl, hfz, hnd⟩ := hW
  have hA : DataW.TrodAll enc Try.prog W 0 (fun _ => true) true Try.f4.params.toList args.toList ds p := hA0
  rw [Try.params4] at hA hval
  obtain ⟨v0, vs0, d0, ds0, p0, q0, hargs, rfl, rfl, h0, r0⟩ := trodAll_cons hA
  obtain ⟨rfl, rfl, rfl⟩ := trodAll_nil r0
  obtain rfl : args = #[v0] := by cases args; simp_all
  obtain ⟨rfl, rfl⟩ := trodVars_none hV
  obtain ⟨a0, rfl, rfl, rfl, w0⟩ := open_int Try.underlying3 (hval 0 3 v0 rfl rfl) h0
  refine (walk W a0 w0).mono fun e W' ⟨he, hg⟩ => ?_
  subst he
  exact ⟨_, rfl, law_post (tb := 4) (by kernel_rfl) (by kernel_rfl) hW' hg rfl Try.underlying4 rfl rfl rfl rfl⟩

theorem over : Rows.fnExactMethodsOfRow.holds Try.pinned (OpenSpec.ofChange Rows.fnExactMethodsOfSpec) :=
  OpenClaim.holds_of_wide 4 Try.f4 rfl rfl rfl rfl rfl rfl rfl ⟨rfl, rfl, rfl, rfl, rfl⟩ rfl rfl rfl rfl rfl (by kernel_rfl) Try.func4 (by kernel_rfl)
    (of_decide_eq_true (by kernel_rfl)) (by unfold Func.isWrapper; first | (rw [if_pos (by decide +kernel)]; kernel_rfl) | (rw [if_neg (by decide +kernel)]; exact ⟨rfl, rfl⟩))
    (fun os started H enc _ => lifted os started H enc)

/-- The statement. -/
theorem proved : Rows.FnExactMethodsOfSaid :=
  over
#print axioms proved
end Go.Proofs.Ytcnhglellnglgaa.fnExactMethodsOf
