/- FnExactJoinWith: for every input the law returns true, and its arguments read afterwards as they read before. No condition besides those of the statement itself. -/
import Derived.Test.YtpenhmglegmclaaLaw
import Derived.Test.YtpenhmglegmclaaMeth
import Derived.Test.YtpenhmglegmclaaStrs
import Derived.Test.YtpenhmglegmclaaOpen
import Derived.Test.YtpenhmglegmclaaJoin
import Derived.ShutString
namespace Go.Proofs.Ytpenhmglegmclaa.fnExactJoinWith
open Go.ChangeShapes Go.WideShapes Go.ChangeAt Go.RowKit
set_option maxRecDepth 100000
open Go.ChangeMaps (open_string shut_string)
set_option linter.unusedVariables false

theorem own : ownKnob Try.prog.godebug = none := by kernel_rfl

/-- The walk: the Go text returns true. -/
theorem walk (w : World) (v0 : Value) (a0 : List ByteArray) (hv0 : ArgStr w v0 a0) (a1 : ByteArray) (w1 : a1.size ≤ maxLen) :
    Calls Try.prog 11 #[v0, .string a1] w fun e w' => e = .returned (.bool true) ∧ Below w.heap.size w w' := by
  obtain ⟨r0, z0⟩ := hv0
  have Z0 := hide z0
  clear z0
  by_cases h1 : a1.size ≤ 1048576
  · by_cases hs : (a0.length + Pu.tot a0 : Int) ≤ 1048576
    · have hsz : Hid (Pu.szStr a0 1048576 = 1048576 - (a0.length + Pu.tot a0)) := by rw [Hid, Pu.szStr, if_pos hs]
      have hL : a0.length ≤ 1048576 := by omega
      have hT : Pu.tot a0 ≤ 1048576 := by omega
      go_enter Try.func11, Try.ntmps11
      go_wp2_with fail
      refine (szStringS_c _ _ _ _ r0 (by omega) (by omega) Z0.out).mono ?_; rintro e W1 ⟨rfl, b1⟩
      rw [hsz.out]
      have r1 : RdStr W1 v0 a0 := RdL.below r0 b1 (Nat.le_refl _)
      go_wp2_with fail
      refine (toStringS_c _ _ _ r1 (by omega)).mono ?_; rintro e W2 ⟨v2, rfl, o2, b2⟩
      have r2 : RdStr W2 v2 a0 := o2.rd (fun _ => rfl)
      have c2 := below_then b1 b2
      go_wp2_with fail
      refine (sJoinWith_c _ _ _ _ r2 hL h1 hT).mono ?_; rintro e W3 ⟨rfl, b3⟩
      have c3 := below_then c2 b3
      go_wp2_with fail
      refine (toStringS_c _ _ _ (RdL.below r0 c3 (Nat.le_refl _)) (by omega)).mono ?_; rintro e W4 ⟨v4, rfl, o4, b4⟩
      have r4 : RdStr W4 v4 a0 := o4.rd (fun _ => rfl)
      have c4 := below_then c3 b4
      go_wp2_with fail
      refine (iJoinWith_c _ _ _ _ r4 hL h1 hT).mono ?_; rintro e W5 ⟨rfl, b5⟩
      have c5 := below_then c4 b5
      go_wp2_with fail
      refine (toStringS_c _ _ _ (RdL.below r0 c5 (Nat.le_refl _)) (by omega)).mono ?_; rintro e W6 ⟨v6, rfl, o6, b6⟩
      have r6 : RdStr W6 v6 a0 := o6.rd (fun _ => rfl)
      have c6 := below_then c5 b6
      go_wp2_with fail
      refine (eqStringS_c _ _ _ _ rfl _ (RdL.below r4 (below_then b5 b6) (Nat.le_refl _)) r6).mono ?_; rintro e W7 ⟨rfl, b7⟩
      go_wp2
      go_ret
      exact ⟨rfl, below_then c6 b7⟩
    · have hsz : Hid (Pu.szStr a0 1048576 = -1) := by rw [Hid, Pu.szStr, if_neg hs]
      go_enter Try.func11, Try.ntmps11
      go_wp2_with fail
      refine (szStringS_c _ _ _ _ r0 (by omega) (by omega) Z0.out).mono ?_; rintro e W1 ⟨rfl, b1⟩
      rw [hsz.out]
      go_wp2
      go_ret
      exact ⟨rfl, b1⟩
  · go_enter Try.func11, Try.ntmps11
    go_wp2
    go_ret
    exact ⟨rfl, Below.refl _ _⟩

set_option maxRecDepth 100000 in
theorem lifted (os : Os) (started : os.Started) (H : Type) (enc : TypeId × Value → H) :
    ReturnsInHanded {} Try.checked os 11 .any (Rows.fnExactJoinWithSpec.pre6 enc Try.prog Try.f11 Rows.fnExactJoinWithRow.domain false) (Rows.fnExactJoinWithSpec.post enc Try.prog Try.f11 false true false false) := by
  refine returnsInHanded_of_change (C := Try.checked) own started (by kernel_rfl) Try.func11
    (ChangeSpec.witness6 (enc := enc) (C := Try.checked) false ⟨#[], #[.slice none 0 0, .string ByteArray.empty], []⟩ 8 (by kernel_rfl) (by kernel_rfl) (by kernel_rfl) (by kernel_rfl)) ?_
  intro W base args ds gs before hval0 hW _ _
  have hval : ∀ (j : Nat) t v, Try.f11.params[j]? = some t → args[j]? = some v → Value.okWide Try.prog W .any base t v := hval0
  have hW' := hW
  obtain ⟨p, q, hA0, hV, rfl, hfz, hnd⟩ := hW
  have hA : DataW.TrodAll enc Try.prog W 0 (fun _ => true) true Try.f11.params.toList args.toList ds p := hA0
  rw [Try.params11] at hA hval
  obtain ⟨v0, vs0, d0, ds0, p0, q0, hargs, rfl, rfl, h0, r0⟩ := trodAll_cons hA
  obtain ⟨v1, vs1, d1, ds1, p1, q1, rfl, rfl, rfl, h1, r1⟩ := trodAll_cons r0
  obtain ⟨rfl, rfl, rfl⟩ := trodAll_nil r1
  obtain rfl : args = #[v0, v1] := by cases args; simp_all
  obtain ⟨rfl, rfl⟩ := trodVars_none hV
  obtain ⟨a0, hv0⟩ := open_strs (hval 0 38 v0 rfl rfl) h0
  obtain ⟨a1, rfl, rfl, rfl, w1⟩ := open_string Try.underlying9 (hval 1 9 v1 rfl rfl) h1
  refine (walk W v0 a0 hv0 a1 w1).mono fun e W' ⟨he, hg⟩ => ?_
  subst he
  exact ⟨_, rfl, law_post (tb := 4) (by kernel_rfl) (by kernel_rfl) hW' hg rfl Try.underlying4 rfl rfl rfl rfl⟩

theorem over : Rows.fnExactJoinWithRow.holds Try.pinned (OpenSpec.ofChange Rows.fnExactJoinWithSpec) :=
  OpenClaim.holds_of_wide 11 Try.f11 rfl rfl rfl rfl rfl rfl rfl ⟨rfl, rfl, rfl, rfl, rfl⟩ rfl rfl rfl rfl rfl (by kernel_rfl) Try.func11 (by kernel_rfl)
    (of_decide_eq_true (by kernel_rfl)) (by unfold Func.isWrapper; first | (rw [if_pos (by decide +kernel)]; kernel_rfl) | (rw [if_neg (by decide +kernel)]; exact ⟨rfl, rfl⟩))
    (fun os started H enc _ => lifted os started H enc)

/-- The statement. -/
theorem proved : Rows.FnExactJoinWithSaid :=
  over
#print axioms proved
end Go.Proofs.Ytpenhmglegmclaa.fnExactJoinWith
