/- FnExactIsCall: for every input the law returns true, and its arguments read afterwards as they read before. No condition besides those of the statement itself. -/
import Derived.Test.YtpenhmglegmclaaLaw
import Derived.Test.YtpenhmglegmclaaCall
import Derived.Test.YtpenhmglegmclaaOpenCall
import Derived.ShutString
namespace Go.Proofs.Ytpenhmglegmclaa.fnExactIsCall
open Go.ChangeShapes Go.WideShapes Go.ChangeAt Go.RowKit
open Go.ChangeMaps (open_string shut_string)
set_option linter.unusedVariables false

theorem own : ownKnob Try.prog.godebug = none := by kernel_rfl

set_option maxHeartbeats 1000000 in
/-- The walk: the Go text returns true. -/
theorem walk (w : World) (v0 : Value) (a0 : Pu.CallD) (hv0 : IsCallV v0 a0) :
    Calls Try.prog 14 #[v0] w fun e w' => e = .returned (.bool true) ∧ Below w.heap.size w w' := by
  obtain ⟨wf0, rfl⟩ := hv0
  have WF := hide wf0
  clear wf0
  unfold callV
  go_enter Try.func14, Try.ntmps14
  obtain ⟨w0, hw0⟩ : ∃ w0, Hid (w.alloc (.cells #[.string a0.method, .string a0.key, .int .i64 a0.value, .string a0.text] 55 : Obj) = w0) := ⟨_, rfl⟩
  have b0 : Below w.heap.size w w0 := by rw [← hw0.out]; exact below_alloc (Below.refl _ _) _
  have bx : ∀ W : World, Below w0.heap.size w0 W → W.heap[w.heap.size]? = some (.cells #[.string a0.method, .string a0.key, .int .i64 a0.value, .string a0.text] 55 : Obj) := fun W h => (h.block w.heap.size (by rw [← hw0.out]; simp)).trans (by rw [← hw0.out]; exact heap_new rfl)
  have BX := hide bx
  clear bx
  go_wp2_with fail
  rw [hw0.out]
  refine (szCall_c a0 _ WF.out).mono ?_; rintro e W1 ⟨he, b1⟩
  obtain ⟨_, _, _, _, _⟩ := four_cells (BX.out _ b1)
  rcases he with rfl | ⟨n, hn, rfl⟩
  · go_wp2
    go_ret
    exact ⟨rfl, below_then b0 b1⟩
  · go_wp2_with fail
    refine (toCall_c a0 _).mono ?_; rintro e W2 ⟨rfl, b2⟩
    have c2 := below_then b1 b2
    go_wp2_with fail
    refine (sIsCall_c a0 _ WF.out).mono ?_; rintro e W3 ⟨rfl, b3⟩
    have c3 := below_then c2 b3
    obtain ⟨_, _, _, _, _⟩ := four_cells (BX.out _ c3)
    go_wp2_with fail
    refine (toCall_c a0 _).mono ?_; rintro e W4 ⟨rfl, b4⟩
    have c4 := below_then c3 b4
    go_wp2_with fail
    refine (iIsCall_c a0 _ WF.out).mono ?_; rintro e W5 ⟨rfl, b5⟩
    go_wp2
    go_ret
    exact ⟨rfl, below_then b0 (below_then c4 b5)⟩

set_option maxRecDepth 100000 in
theorem lifted (os : Os) (started : os.Started) (H : Type) (enc : TypeId × Value → H) :
    ReturnsInHanded {} Try.checked os 14 .any (Rows.fnExactIsCallSpec.pre6 enc Try.prog Try.f14 Rows.fnExactIsCallRow.domain false) (Rows.fnExactIsCallSpec.post enc Try.prog Try.f14 false true false false) := by
  refine returnsInHanded_of_change (C := Try.checked) own started (by kernel_rfl) Try.func14
    (ChangeSpec.witness6 (enc := enc) (C := Try.checked) false ⟨#[], #[.agg #[.string ByteArray.empty, .string ByteArray.empty, .int .i64 0, .string ByteArray.empty]], []⟩ 8 (by kernel_rfl) (by kernel_rfl) (by kernel_rfl) (by kernel_rfl)) ?_
  intro W base args ds gs before hval0 hW _ _
  have hval : ∀ (j : Nat) t v, Try.f14.params[j]? = some t → args[j]? = some v → Value.okWide Try.prog W .any base t v := hval0
  have hW' := hW
  obtain ⟨p, q, hA0, hV, rfl, hfz, hnd⟩ := hW
  have hA : DataW.TrodAll enc Try.prog W 0 (fun _ => true) true Try.f14.params.toList args.toList ds p := hA0
  rw [Try.params14] at hA hval
  obtain ⟨v0, vs0, d0, ds0, p0, q0, hargs, rfl, rfl, h0, r0⟩ := trodAll_cons hA
  obtain ⟨rfl, rfl, rfl⟩ := trodAll_nil r0
  obtain rfl : args = #[v0] := by cases args; simp_all
  obtain ⟨rfl, rfl⟩ := trodVars_none hV
  obtain ⟨a0, hv0⟩ := open_call (hval 0 55 v0 rfl rfl) h0
  refine (walk W v0 a0 hv0).mono fun e W' ⟨he, hg⟩ => ?_
  subst he
  exact ⟨_, rfl, law_post (tb := 4) (by kernel_rfl) (by kernel_rfl) hW' hg rfl Try.underlying4 rfl rfl rfl rfl⟩

theorem over : Rows.fnExactIsCallRow.holds Try.pinned (OpenSpec.ofChange Rows.fnExactIsCallSpec) :=
  OpenClaim.holds_of_wide 14 Try.f14 rfl rfl rfl rfl rfl rfl rfl ⟨rfl, rfl, rfl, rfl, rfl⟩ rfl rfl rfl rfl rfl (by kernel_rfl) Try.func14 (by kernel_rfl)
    (of_decide_eq_true (by kernel_rfl)) (by unfold Func.isWrapper; first | (rw [if_pos (by decide +kernel)]; kernel_rfl) | (rw [if_neg (by decide +kernel)]; exact ⟨rfl, rfl⟩))
    (fun os started H enc _ => lifted os started H enc)

/-- The statement. -/
theorem proved : Rows.FnExactIsCallSaid :=
  over
#print axioms proved
end Go.Proofs.Ytpenhmglegmclaa.fnExactIsCall
