/- FnExactNewCore: for every input the law returns true, and its arguments read afterwards as they read before. No condition besides those of the statement itself. -/
import Derived.Test.YtpenhmglegmclaaLaw
import Derived.Test.YtpenhmglegmclaaNewCore
import Derived.Test.YtpenhmglegmclaaCore2
import Derived.Test.YtpenhmglegmclaaMarkP
import Derived.ShutString
namespace Go.Proofs.Ytpenhmglegmclaa.fnExactNewCore
open Go.ChangeShapes Go.WideShapes Go.ChangeAt Go.RowKit
open Go.ChangeMaps (open_string shut_string)
set_option linter.unusedVariables false

theorem own : ownKnob Try.prog.godebug = none := by kernel_rfl

set_option maxHeartbeats 1000000 in
/-- The walk: the Go text returns true. -/
theorem walk (w : World) (a0 : ByteArray) (w0 : a0.size ≤ maxLen) :
    Calls Try.prog 13 #[.string a0] w fun e w' => e = .returned (.bool true) ∧ Below w.heap.size w w' := by
  have hN : ∀ W : World, RdL W 2 cellEn (.slice none 0 0) (Pu.newCore a0).cells := fun W => by rw [show (Pu.newCore a0).cells = [] from Pu.newCore_cells a0]; exact RdL.nil _ _ _
  have HN := hide hN
  clear hN
  by_cases hs : a0.size ≤ 1048576
  · go_enter Try.func13, Try.ntmps13
    go_wp2_with fail
    refine (sNewCore_c _ _).mono ?_; rintro e W1 ⟨rfl, b1⟩
    unfold coreV
    go_wp2_with fail
    refine (iNewCore_c _ _).mono ?_; rintro e W2 ⟨rfl, b2⟩
    unfold coreV
    have yW2 := hide (show W2.heap[W1.heap.size]? = some (.cells #[.string (Pu.newCore a0).kind, .bool (Pu.newCore a0).on, .bool (Pu.newCore a0).broken, .slice none 0 0, .int .i64 (Pu.newCore a0).count] 49 : Obj) from (b2.block W1.heap.size (by simp)).trans (heap_new rfl))
    have z2 : W1.heap.size < W2.heap.size := by have := b2.size; simp at this; omega
    have e2 : Below W1.heap.size W1 W2 := below_then (below_alloc (Below.refl _ _) _) b2
    obtain ⟨_, _, _, _, _, _⟩ := five_cells yW2.out
    go_wp2_with fail
    refine (eqCore_c (Pu.newCore a0) (Pu.newCore a0) _ _ _ rfl (HN.out _) (HN.out _)).mono ?_; rintro e W3 ⟨rfl, b3⟩
    have yG3 := hide (show W3.heap[W2.heap.size]? = some (.cells #[.string (Pu.newCore a0).kind, .bool (Pu.newCore a0).on, .bool (Pu.newCore a0).broken, .slice none 0 0, .int .i64 (Pu.newCore a0).count] 49 : Obj) from (b3.block W2.heap.size (by simp)).trans (heap_new rfl))
    have yW3 := hide (show W3.heap[W1.heap.size]? = some (.cells #[.string (Pu.newCore a0).kind, .bool (Pu.newCore a0).on, .bool (Pu.newCore a0).broken, .slice none 0 0, .int .i64 (Pu.newCore a0).count] 49 : Obj) from (b3.block W1.heap.size (by simp; omega)).trans (heap_old z2 yW2.out))
    have z3 : W2.heap.size < W3.heap.size := by have := b3.size; simp at this; omega
    have e3 : Below W2.heap.size W2 W3 := below_then (below_alloc (Below.refl _ _) _) b3
    obtain ⟨_, _, _, _, _, _⟩ := five_cells yG3.out
    obtain ⟨_, _, _, _, _, _⟩ := five_cells yW3.out
    go_wp2_with fail
    refine (markCore_c (Pu.newCore a0) _ [] 1 W3.heap.size _ (OwnL.nil _ _ _ _ _) (by omega) (by omega) (by simp)).mono ?_; rintro e W4 ⟨rfl, o4, i4⟩
    have e4 : Below W3.heap.size W3 W4 := (grown_within (OwnL.nil (α := Pu.CellD) W3 W3.heap.size 93 2 cellEn) i4 (.inl (Nat.le_refl W3.heap.size))).below (Nat.le_refl _) (Nat.le_refl _)
    obtain ⟨_, _, _, _, _, _⟩ := five_cells ((e4.block _ z3).trans yG3.out)
    go_wp2_with fail
    refine (heldCore_c (Pu.newCore a0) _ 0 1 _ (RdL.nil _ _ _) (by omega) (by omega) (by omega)).mono ?_; rintro e W5 ⟨rfl, b5⟩
    have e5 := below_then e4 b5
    go_wp2_with fail
    refine (iNewCore_c _ _).mono ?_; rintro e W6 ⟨rfl, b6⟩
    unfold coreV
    have e6 := below_then e5 b6
    obtain ⟨_, _, _, _, _, _⟩ := five_cells ((e6.block _ (by omega)).trans yW3.out)
    obtain ⟨_, _, _, _, _, _⟩ := five_cells ((e6.block _ z3).trans yG3.out)
    have z6 : W1.heap.size < W6.heap.size := by have := e6.size; omega
    have z6b : W2.heap.size < W6.heap.size := by have := e6.size; omega
    go_wp2_with fail
    refine (eqCore_c (Pu.newCore a0) (Pu.newCore a0) _ _ _ rfl (HN.out _) (HN.out _)).mono ?_; rintro e W7 ⟨rfl, b7⟩
    have e7 : Below W3.heap.size W3 W7 := below_then (below_alloc e6 _) b7
    obtain ⟨_, _, _, _, _, _⟩ := five_cells ((e7.block _ z3).trans yG3.out)
    go_wp2_with fail
    refine (heldCore_c (Pu.newCore a0) _ 0 1 _ (RdL.nil _ _ _) (by omega) (by omega) (by omega)).mono ?_; rintro e W8 ⟨rfl, b8⟩
    go_wp2
    go_ret
    exact ⟨rfl, below_then b1 (below_then e2 (below_then e3 (below_then e7 b8)))⟩
  · unfold maxLen at w0
    go_enter Try.func13, Try.ntmps13
    go_wp2_with fail
    go_ret
    exact ⟨rfl, Below.refl _ _⟩

set_option maxRecDepth 100000 in
theorem lifted (os : Os) (started : os.Started) (H : Type) (enc : TypeId × Value → H) :
    ReturnsInHanded {} Try.checked os 13 .any (Rows.fnExactNewCoreSpec.pre6 enc Try.prog Try.f13 Rows.fnExactNewCoreRow.domain false) (Rows.fnExactNewCoreSpec.post enc Try.prog Try.f13 false true false false) := by
  refine returnsInHanded_of_change (C := Try.checked) own started (by kernel_rfl) Try.func13
    (ChangeSpec.witness6 (enc := enc) (C := Try.checked) false ⟨#[], #[.string ByteArray.empty], []⟩ 8 (by kernel_rfl) (by kernel_rfl) (by kernel_rfl) (by kernel_rfl)) ?_
  intro W base args ds gs before hval0 hW _ _
  have hval : ∀ (j : Nat) t v, Try.f13.params[j]? = some t → args[j]? = some v → Value.okWide Try.prog W .any base t v := hval0
  have hW' := hW
  obtain ⟨p, q, hA0, hV, rfl, hfz, hnd⟩ := hW
  have hA : DataW.TrodAll enc Try.prog W 0 (fun _ => true) true Try.f13.params.toList args.toList ds p := hA0
  rw [Try.params13] at hA hval
  obtain ⟨v0, vs0, d0, ds0, p0, q0, hargs, rfl, rfl, h0, r0⟩ := trodAll_cons hA
  obtain ⟨rfl, rfl, rfl⟩ := trodAll_nil r0
  obtain rfl : args = #[v0] := by cases args; simp_all
  obtain ⟨rfl, rfl⟩ := trodVars_none hV
  obtain ⟨a0, rfl, rfl, rfl, w0⟩ := open_string Try.underlying9 (hval 0 9 v0 rfl rfl) h0
  refine (walk W a0 w0).mono fun e W' ⟨he, hg⟩ => ?_
  subst he
  exact ⟨_, rfl, law_post (tb := 4) (by kernel_rfl) (by kernel_rfl) hW' hg rfl Try.underlying4 rfl rfl rfl rfl⟩

theorem over : Rows.fnExactNewCoreRow.holds Try.pinned (OpenSpec.ofChange Rows.fnExactNewCoreSpec) :=
  OpenClaim.holds_of_wide 13 Try.f13 rfl rfl rfl rfl rfl rfl rfl ⟨rfl, rfl, rfl, rfl, rfl⟩ rfl rfl rfl rfl rfl (by kernel_rfl) Try.func13 (by kernel_rfl)
    (of_decide_eq_true (by kernel_rfl)) (by unfold Func.isWrapper; first | (rw [if_pos (by decide +kernel)]; kernel_rfl) | (rw [if_neg (by decide +kernel)]; exact ⟨rfl, rfl⟩))
    (fun os started H enc _ => lifted os started H enc)

/-- The statement. -/
theorem proved : Rows.FnExactNewCoreSaid :=
  over
#print axioms proved
end Go.Proofs.Ytpenhmglegmclaa.fnExactNewCore
