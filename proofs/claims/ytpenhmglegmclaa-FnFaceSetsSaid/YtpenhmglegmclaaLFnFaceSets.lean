/- FnFaceSets: for every input the law returns true, and its arguments read afterwards as they read before. No condition besides those of the statement itself. -/
import Derived.Test.YtpenhmglegmclaaLaw
import Derived.Test.YtpenhmglegmclaaDrawFace
import Derived.Test.YtpenhmglegmclaaFace2
import Derived.Test.YtpenhmglegmclaaFaceLaws
import Derived.Test.YtpenhmglegmclaaOpen
import Derived.ShutString
namespace Go.Proofs.Ytpenhmglegmclaa.fnFaceSets
open Go.ChangeShapes Go.WideShapes Go.ChangeAt Go.RowKit
open Go.ChangeMaps (open_string shut_string)
set_option linter.unusedVariables false

theorem own : ownKnob Try.prog.godebug = none := by kernel_rfl

set_option maxHeartbeats 4000000 in
/-- The walk: the Go text returns true. -/
theorem walk (w : World) (v0 : Value) (a0 : List UInt8) (hv0 : RdL w 1 byteEn v0 a0) :
    Calls Try.prog 10 #[v0] w fun e w' => e = .returned (.bool true) ∧ Below w.heap.size w w' := by
  have H0 := hide hv0
  clear hv0
  rcases hbig : decide (4096 < a0.length) with _ | _
  · have hl : a0.length ≤ 4096 := by simpa using hbig
    go_enter Try.func10, Try.ntmps10
    go_wp2_with fail
    refine (big_c _ _ _ H0.out).mono ?_; rintro e w' ⟨rfl, rfl⟩
    go_wp2_with fail
    refine (drawBothFaces_c _ _ _ H0.out hl).mono ?_; rintro e w1 ⟨a, b, rfl, _, _, b1⟩
    go_wp2_with fail
    refine (drawCountFace_c _ _ _ (H0.out.below b1 (Nat.le_refl _)) hl).mono ?_; rintro e w2 ⟨f, rfl, _, b2⟩
    have c2 := below_then b1 b2
    clear b1 b2 hbig hl
    rcases ha : Pu.faceB a with _ | _
    · rcases hb : Pu.faceB b with _ | _ <;> rcases hf : Pu.faceB f with _ | _
      all_goals
        go_wp2_with (first | (go_at_call 31; refine (iIsFace_c _ _).mono ?_; rintro e w' ⟨rfl, rfl⟩) | (go_at_call 32; refine (sIsFace_c _ _).mono ?_; rintro e w' ⟨rfl, rfl⟩) | (go_at_call 33; refine (iOffers_c _ _ _).mono ?_; rintro e w' ⟨rfl, rfl⟩) | (go_at_call 40; refine (iBothFaces_c _ _ _).mono ?_; rintro e w' ⟨rfl, rfl⟩) | (go_at_call 41; refine (iEitherFace_c _ _ _).mono ?_; rintro e w' ⟨rfl, rfl⟩) | (go_at_call 42; refine (iLacking_c _ _ _).mono ?_; rintro e w' ⟨rfl, rfl⟩) | (go_at_call 20; refine (iCountFace_c _ _).mono ?_; rintro e w' ⟨rfl, rfl⟩))
        go_ret
        exact ⟨rfl, c2⟩
    rcases hb : Pu.faceB b with _ | _
    · rcases hf : Pu.faceB f with _ | _
      all_goals
        go_wp2_with (first | (go_at_call 31; refine (iIsFace_c _ _).mono ?_; rintro e w' ⟨rfl, rfl⟩) | (go_at_call 32; refine (sIsFace_c _ _).mono ?_; rintro e w' ⟨rfl, rfl⟩) | (go_at_call 33; refine (iOffers_c _ _ _).mono ?_; rintro e w' ⟨rfl, rfl⟩) | (go_at_call 40; refine (iBothFaces_c _ _ _).mono ?_; rintro e w' ⟨rfl, rfl⟩) | (go_at_call 41; refine (iEitherFace_c _ _ _).mono ?_; rintro e w' ⟨rfl, rfl⟩) | (go_at_call 42; refine (iLacking_c _ _ _).mono ?_; rintro e w' ⟨rfl, rfl⟩) | (go_at_call 20; refine (iCountFace_c _ _).mono ?_; rintro e w' ⟨rfl, rfl⟩))
        go_ret
        exact ⟨rfl, c2⟩
    rcases hf : Pu.faceB f with _ | _
    · go_wp2_with (first | (go_at_call 31; refine (iIsFace_c _ _).mono ?_; rintro e w' ⟨rfl, rfl⟩) | (go_at_call 32; refine (sIsFace_c _ _).mono ?_; rintro e w' ⟨rfl, rfl⟩) | (go_at_call 33; refine (iOffers_c _ _ _).mono ?_; rintro e w' ⟨rfl, rfl⟩) | (go_at_call 40; refine (iBothFaces_c _ _ _).mono ?_; rintro e w' ⟨rfl, rfl⟩) | (go_at_call 41; refine (iEitherFace_c _ _ _).mono ?_; rintro e w' ⟨rfl, rfl⟩) | (go_at_call 42; refine (iLacking_c _ _ _).mono ?_; rintro e w' ⟨rfl, rfl⟩) | (go_at_call 20; refine (iCountFace_c _ _).mono ?_; rintro e w' ⟨rfl, rfl⟩))
      go_ret
      exact ⟨rfl, c2⟩
    have e1 := Pu.lack_offers ha hb
    have e2 := Pu.both_offers (f := f) ha hb
    have e3 := Pu.offers_either (f := f) ha hb
    have e4 := Pu.count_sum ha hb
    obtain ⟨e5, e6⟩ := Pu.back ha hb
    obtain ⟨k0, k1⟩ := Pu.count_bd a
    obtain ⟨k2, k3⟩ := Pu.count_bd b
    obtain ⟨k4, k5⟩ := Pu.count_bd (Pu.made a b 0)
    obtain ⟨k6, k7⟩ := Pu.count_bd (Pu.made a b 1)
    have e4' : (Pu.countF (Pu.made a b 1) + Pu.countF (Pu.made a b 0) != Pu.countF a + Pu.countF b) = false := by rw [e4]; simp
    have e5' : (Pu.made (Pu.made a b 0) (Pu.made a b 2) 1 == a) = true := by rw [e5]; simp
    have e6' : (Pu.made b (Pu.made a b 2) 0 == 0) = true := by rw [e6]; simp
    clear e4 e5 e6
    rcases h1 : (Pu.made b a 2 == 0) with _ | _
    all_goals
      rw [h1] at e1
      rcases h2 : Pu.offersB a f with _ | _ <;> rcases h3 : Pu.offersB b f with _ | _
      all_goals
        rw [h2, h3] at e2
        simp only [Bool.and_true, Bool.and_false] at e2
        rcases h4 : Pu.offersB f a with _ | _ <;> rcases h5 : Pu.offersB f b with _ | _
        all_goals
          rw [h4, h5] at e3
          simp only [Bool.and_true, Bool.and_false] at e3
          go_wp2_with (first | (go_at_call 31; refine (iIsFace_c _ _).mono ?_; rintro e w' ⟨rfl, rfl⟩) | (go_at_call 32; refine (sIsFace_c _ _).mono ?_; rintro e w' ⟨rfl, rfl⟩) | (go_at_call 33; refine (iOffers_c _ _ _).mono ?_; rintro e w' ⟨rfl, rfl⟩) | (go_at_call 40; refine (iBothFaces_c _ _ _).mono ?_; rintro e w' ⟨rfl, rfl⟩) | (go_at_call 41; refine (iEitherFace_c _ _ _).mono ?_; rintro e w' ⟨rfl, rfl⟩) | (go_at_call 42; refine (iLacking_c _ _ _).mono ?_; rintro e w' ⟨rfl, rfl⟩) | (go_at_call 20; refine (iCountFace_c _ _).mono ?_; rintro e w' ⟨rfl, rfl⟩))
          go_ret
          exact ⟨rfl, c2⟩
  · have hl : 4096 < a0.length := by simpa using hbig
    go_enter Try.func10, Try.ntmps10
    go_wp2_with fail
    refine (big_c _ _ _ H0.out).mono ?_; rintro e w' ⟨rfl, rfl⟩
    go_wp2_with fail
    go_ret
    exact ⟨rfl, Below.refl _ _⟩

set_option maxRecDepth 100000 in
theorem lifted (os : Os) (started : os.Started) (H : Type) (enc : TypeId × Value → H) :
    ReturnsInHanded {} Try.checked os 10 .any (Rows.fnFaceSetsSpec.pre6 enc Try.prog Try.f10 Rows.fnFaceSetsRow.domain false) (Rows.fnFaceSetsSpec.post enc Try.prog Try.f10 false true false false) := by
  refine returnsInHanded_of_change (C := Try.checked) own started (by kernel_rfl) Try.func10
    (ChangeSpec.witness6 (enc := enc) (C := Try.checked) false ⟨#[], #[.slice none 0 0], []⟩ 8 (by kernel_rfl) (by kernel_rfl) (by kernel_rfl) (by kernel_rfl)) ?_
  intro W base args ds gs before hval0 hW _ _
  have hval : ∀ (j : Nat) t v, Try.f10.params[j]? = some t → args[j]? = some v → Value.okWide Try.prog W .any base t v := hval0
  have hW' := hW
  obtain ⟨p, q, hA0, hV, rfl, hfz, hnd⟩ := hW
  have hA : DataW.TrodAll enc Try.prog W 0 (fun _ => true) true Try.f10.params.toList args.toList ds p := hA0
  rw [Try.params10] at hA hval
  obtain ⟨v0, vs0, d0, ds0, p0, q0, hargs, rfl, rfl, h0, r0⟩ := trodAll_cons hA
  obtain ⟨rfl, rfl, rfl⟩ := trodAll_nil r0
  obtain rfl : args = #[v0] := by cases args; simp_all
  obtain ⟨rfl, rfl⟩ := trodVars_none hV
  obtain ⟨a0, hv0⟩ := open_bytes (hval 0 32 v0 rfl rfl) h0
  refine (walk W v0 a0 hv0).mono fun e W' ⟨he, hg⟩ => ?_
  subst he
  exact ⟨_, rfl, law_post (tb := 4) (by kernel_rfl) (by kernel_rfl) hW' hg rfl Try.underlying4 rfl rfl rfl rfl⟩

theorem over : Rows.fnFaceSetsRow.holds Try.pinned (OpenSpec.ofChange Rows.fnFaceSetsSpec) :=
  OpenClaim.holds_of_wide 10 Try.f10 rfl rfl rfl rfl rfl rfl rfl ⟨rfl, rfl, rfl, rfl, rfl⟩ rfl rfl rfl rfl rfl (by kernel_rfl) Try.func10 (by kernel_rfl)
    (of_decide_eq_true (by kernel_rfl)) (by unfold Func.isWrapper; first | (rw [if_pos (by decide +kernel)]; kernel_rfl) | (rw [if_neg (by decide +kernel)]; exact ⟨rfl, rfl⟩))
    (fun os started H enc _ => lifted os started H enc)

/-- The statement. -/
theorem proved : Rows.FnFaceSetsSaid :=
  over
#print axioms proved
end Go.Proofs.Ytpenhmglegmclaa.fnFaceSets
