/- FnExactAscending: for every input the law returns true, and its arguments read afterwards as they read before. No condition besides those of the statement itself. -/
import Derived.Test.YtcnhglellnglgaaLaw
import Derived.Test.YtcnhglellnglgaaStrs
import Derived.Test.YtcnhglellnglgaaMark
import Derived.Test.YtcnhglellnglgaaOpen
import Derived.Test.YtcnhglellnglgaaAsc
import Derived.ShutString
namespace Go.Proofs.Ytcnhglellnglgaa.fnExactAscending
open Go.ChangeShapes Go.WideShapes Go.ChangeAt Go.RowKit
set_option maxRecDepth 100000
open Go.ChangeMaps (open_string shut_string)
set_option linter.unusedVariables false

theorem own : ownKnob Try.prog.godebug = none := by kernel_rfl

/-- The walk: the Go text returns true. -/
theorem walk (w : World) (v0 : Value) (a0 : List ByteArray) (hv0 : ArgStr w v0 a0) :
    Calls Try.prog 3 #[v0] w fun e w' => e = .returned (.bool true) ∧ Below w.heap.size w w' := by
  obtain ⟨r0, z0⟩ := hv0
  have Z0 := hide z0
  clear z0
  by_cases hs : (a0.length + Pu.tot a0 : Int) ≤ 1048576
  · have hsz : Hid (Pu.szStr a0 1048576 = 1048576 - (a0.length + Pu.tot a0)) := by rw [Hid, Pu.szStr, if_pos hs]
    have hL : a0.length ≤ 1048576 := by omega
    have hal := Pu.asc_len a0
    go_enter Try.func3, Try.ntmps3
    go_wp2_with fail
    refine (szStringS_c _ _ _ _ r0 (by omega) (by omega) Z0.out).mono ?_; rintro e W1 ⟨rfl, b1⟩
    rw [hsz.out]
    have r1 : RdStr W1 v0 a0 := RdL.below r0 b1 (Nat.le_refl _)
    go_wp2_with fail
    refine (toStringS_c _ _ _ r1 (by omega)).mono ?_; rintro e W2 ⟨v2, rfl, o2, b2⟩
    have r2 : RdStr W2 v2 a0 := o2.rd (fun _ => rfl)
    have c2 := below_then b1 b2
    go_wp2_with fail
    refine (sAscending_c _ _ _ r2 (by omega)).mono ?_; rintro e W3 ⟨v3, rfl, o3, b3⟩
    have r3 : RdStr W3 v3 (Pu.asc a0) := o3.rd (fun _ => rfl)
    have c3 := below_then c2 b3
    go_wp2_with fail
    refine (toStringS_c _ _ _ (RdL.below r0 c3 (Nat.le_refl _)) (by omega)).mono ?_; rintro e W4 ⟨v4, rfl, o4, b4⟩
    have r4 : RdStr W4 v4 a0 := o4.rd (fun _ => rfl)
    have c4 := below_then c3 b4
    go_wp2_with fail
    refine (iAscending_c _ _ _ r4 (by omega)).mono ?_; rintro e W5 ⟨v5, rfl, o5, b5⟩
    have r5 : RdStr W5 v5 (Pu.asc a0) := o5.rd (fun _ => rfl)
    have c5 := below_then c4 b5
    have d5 : Below W3.heap.size W3 W5 := below_then b4 b5
    go_wp2_with fail
    refine (eqStringS_c _ _ _ _ rfl _ r5 (RdL.below r3 d5 (Nat.le_refl _))).mono ?_; rintro e W6 ⟨rfl, b6⟩
    have c6 := below_then c5 b6
    go_wp2_with fail
    refine (toStringS_c _ _ _ (RdL.below r0 c6 (Nat.le_refl _)) (by omega)).mono ?_; rintro e W7 ⟨v7, rfl, o7, b7⟩
    have r7 : RdStr W7 v7 a0 := o7.rd (fun _ => rfl)
    have c7 := below_then c6 b7
    have k7 : Below W4.heap.size W4 W7 := below_then (below_then b5 b6) b7
    go_wp2_with fail
    refine (eqStringS_c _ _ _ _ rfl _ (RdL.below r4 k7 (Nat.le_refl _)) r7).mono ?_; rintro e W8 ⟨rfl, b8⟩
    have c8 := below_then c7 b8
    have k8 : Below W4.heap.size W4 W8 := below_then k7 b8
    have d8 : Below W3.heap.size W3 W8 := below_then b4 k8
    have x8 := o4.below k8 (Nat.le_refl _)
    have g8 := o5.below (below_then (below_then b6 b7) b8) (Nat.le_refl _)
    go_wp2_with fail
    refine (markStringS_c _ _ _ _ _ x8 (by omega) (by omega) (by omega)).mono ?_; rintro e W9 ⟨rfl, o9, h9⟩
    have c9 : Below w.heap.size w W9 := c8.grown h9 c8.size (fun k hk => Nat.le_trans c3.size (x8.lt hk).1)
    have d9 : Below W3.heap.size W3 W9 := d8.grown h9 d8.size (fun k hk => (x8.lt hk).1)
    have ne : v5.ownBlock = none ∨ v5.ownBlock ≠ v4.ownBlock := by
      rcases hv : v5.ownBlock with _ | g
      · exact .inl rfl
      · exact .inr fun e => by
          have e1 := (o5.lt hv).1
          have e2 := (o4.lt e.symm).2
          omega
    have g9 := g8.kept h9 ne
    go_wp2_with fail
    refine (eqStringS_c _ _ _ _ rfl _ (g9.rd (fun _ => rfl)) (RdL.below r3 d9 (Nat.le_refl _))).mono ?_; rintro e W10 ⟨rfl, b10⟩
    have c10 := below_then c9 b10
    have d10 := below_then d9 b10
    have g10 := g9.below b10 (Nat.le_refl _)
    go_wp2_with fail
    refine (markStringS_c _ _ _ _ _ g10 (by omega) (by omega) (by omega)).mono ?_; rintro e W11 ⟨rfl, o11, h11⟩
    have c11 : Below w.heap.size w W11 := c10.grown h11 c10.size (fun k hk => Nat.le_trans c4.size (g10.lt hk).1)
    have d11 : Below W3.heap.size W3 W11 := d10.grown h11 d10.size (fun k hk => Nat.le_trans b4.size (g10.lt hk).1)
    have r11 : RdStr W11 v5 _ := o11.rd (fun _ => rfl)
    go_wp2_with fail
    refine (heldStringS_c _ _ _ _ r11 (by omega) (by omega) (by omega)).mono ?_; rintro e W12 ⟨rfl, b12⟩
    have c12 := below_then c11 b12
    go_wp2_with fail
    refine (toStringS_c _ _ _ (RdL.below r0 c12 (Nat.le_refl _)) (by omega)).mono ?_; rintro e W13 ⟨v13, rfl, o13, b13⟩
    have r13 : RdStr W13 v13 a0 := o13.rd (fun _ => rfl)
    have c13 := below_then c12 b13
    go_wp2_with fail
    refine (iAscending_c _ _ _ r13 (by omega)).mono ?_; rintro e W14 ⟨v14, rfl, o14, b14⟩
    have r14 : RdStr W14 v14 (Pu.asc a0) := o14.rd (fun _ => rfl)
    have c14 := below_then c13 b14
    have d14 := below_then (below_then (below_then d11 b12) b13) b14
    go_wp2_with fail
    refine (eqStringS_c _ _ _ _ rfl _ r14 (RdL.below r3 d14 (Nat.le_refl _))).mono ?_; rintro e W15 ⟨rfl, b15⟩
    have c15 := below_then c14 b15
    have k15 : Below W11.heap.size W11 W15 := below_then (below_then (below_then b12 b13) b14) b15
    go_wp2_with fail
    refine (heldStringS_c _ _ _ _ (RdL.below r11 k15 (Nat.le_refl _)) (by omega) (by omega) (by omega)).mono ?_; rintro e W16 ⟨rfl, b16⟩
    go_wp2
    go_ret
    exact ⟨rfl, below_then c15 b16⟩
  · have hsz : Hid (Pu.szStr a0 1048576 = -1) := by rw [Hid, Pu.szStr, if_neg hs]
    go_enter Try.func3, Try.ntmps3
    go_wp2_with fail
    refine (szStringS_c _ _ _ _ r0 (by omega) (by omega) Z0.out).mono ?_; rintro e W1 ⟨rfl, b1⟩
    rw [hsz.out]
    go_wp2
    go_ret
    exact ⟨rfl, b1⟩

set_option maxRecDepth 100000 in
theorem lifted (os : Os) (started : os.Started) (H : Type) (enc : TypeId × Value → H) :
    ReturnsInHanded {} Try.checked os 3 .any (Rows.fnExactAscendingSpec.pre6 enc Try.prog Try.f3 Rows.fnExactAscendingRow.domain false) (Rows.fnExactAscendingSpec.post enc Try.prog Try.f3 false true false false) := by
  refine returnsInHanded_of_change (C := Try.checked) own started (by kernel_rfl) Try.func3
    (ChangeSpec.witness6 (enc := enc) (C := Try.checked) false ⟨#[], #[.slice none 0 0], []⟩ 8 (by kernel_rfl) (by kernel_rfl) (by kernel_rfl) (by kernel_rfl)) ?_
  intro W base args ds gs before hval0 hW _ _
  have hval : ∀ (j : Nat) t v, Try.f3.params[j]? = some t → args[j]? = some v → Value.okWide Try.prog W .any base t v := hval0
  have hW' := hW
  obtain ⟨p, q, hA0, hV, rfl, hfz, hnd⟩ := hW
  have hA : DataW.TrodAll enc Try.prog W 0 (fun _ => true) true Try.f3.params.toList args.toList ds p := hA0
  rw [Try.params3] at hA hval
  obtain ⟨v0, vs0, d0, ds0, p0, q0, hargs, rfl, rfl, h0, r0⟩ := trodAll_cons hA
  obtain ⟨rfl, rfl, rfl⟩ := trodAll_nil r0
  obtain rfl : args = #[v0] := by cases args; simp_all
  obtain ⟨rfl, rfl⟩ := trodVars_none hV
  obtain ⟨a0, hv0⟩ := open_strs (hval 0 22 v0 rfl rfl) h0
  refine (walk W v0 a0 hv0).mono fun e W' ⟨he, hg⟩ => ?_
  subst he
  exact ⟨_, rfl, law_post (tb := 4) (by kernel_rfl) (by kernel_rfl) hW' hg rfl Try.underlying4 rfl rfl rfl rfl⟩

theorem over : Rows.fnExactAscendingRow.holds Try.pinned (OpenSpec.ofChange Rows.fnExactAscendingSpec) :=
  OpenClaim.holds_of_wide 3 Try.f3 rfl rfl rfl rfl rfl rfl rfl ⟨rfl, rfl, rfl, rfl, rfl⟩ rfl rfl rfl rfl rfl (by kernel_rfl) Try.func3 (by kernel_rfl)
    (of_decide_eq_true (by kernel_rfl)) (by unfold Func.isWrapper; first | (rw [if_pos (by decide +kernel)]; kernel_rfl) | (rw [if_neg (by decide +kernel)]; exact ⟨rfl, rfl⟩))
    (fun os started H enc _ => lifted os started H enc)

/-- The statement. -/
theorem proved : Rows.FnExactAscendingSaid :=
  over
#print axioms proved
end Go.Proofs.Ytcnhglellnglgaa.fnExactAscending
