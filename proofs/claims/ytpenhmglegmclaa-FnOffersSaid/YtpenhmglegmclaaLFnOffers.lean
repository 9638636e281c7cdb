/- FnOffers: for every input the law returns true, and its arguments read afterwards as they read before. No condition besides those of the statement itself. -/
import Derived.Test.YtpenhmglegmclaaLaw
import Derived.Test.YtpenhmglegmclaaDrawFace
import Derived.Test.YtpenhmglegmclaaOpen
import Derived.ShutString
namespace Go.Proofs.Ytpenhmglegmclaa.fnOffers
open Go.ChangeShapes Go.WideShapes Go.ChangeAt Go.RowKit
open Go.ChangeMaps (open_string shut_string)
set_option linter.unusedVariables false

theorem own : ownKnob Try.prog.godebug = none := by kernel_rfl

/-- The walk: the Go text returns true. -/
theorem walk (w : World) (v0 : Value) (a0 : List UInt8) (hv0 : RdL w 1 byteEn v0 a0) :
    Calls Try.prog 8 #[v0] w fun e w' => e = .returned (.bool true) ∧ Below w.heap.size w w' := by
  have H0 := hide hv0
  clear hv0
  rcases hbig : decide (4096 < a0.length) with _ | _
  · have hl : a0.length ≤ 4096 := by simpa using hbig
    go_enter Try.func8, Try.ntmps8
    go_wp2_with fail
    refine (big_c _ _ _ H0.out).mono ?_; rintro e w' ⟨rfl, rfl⟩
    go_wp2_with fail
    refine (drawOffers_c _ _ _ H0.out hl).mono ?_; rintro e w1 ⟨a, b, rfl, _, _, b1⟩
    go_wp2_with fail
    refine (drawCountFace_c _ _ _ (H0.out.below b1 (Nat.le_refl _)) hl).mono ?_; rintro e w2 ⟨f, rfl, _, b2⟩
    have c2 := below_then b1 b2
    clear b1 b2 hbig hl
    rcases ha : Pu.faceB a with _ | _
    · have e1 := Pu.offersB_no (a := a) (b := b) (by simp [ha])
      rcases hb : Pu.faceB b with _ | _ <;> rcases hf : Pu.faceB f with _ | _
      all_goals
        go_wp2_with (first | (go_at_call 31; refine (iIsFace_c _ _).mono ?_; rintro e w' ⟨rfl, rfl⟩) | (go_at_call 32; refine (sIsFace_c _ _).mono ?_; rintro e w' ⟨rfl, rfl⟩) | (go_at_call 33; refine (iOffers_c _ _ _).mono ?_; rintro e w' ⟨rfl, rfl⟩))
        go_ret
        exact ⟨rfl, c2⟩
    rcases hb : Pu.faceB b with _ | _
    · have e1 := Pu.offersB_no (a := a) (b := b) (by simp [hb])
      rcases hf : Pu.faceB f with _ | _
      all_goals
        go_wp2_with (first | (go_at_call 31; refine (iIsFace_c _ _).mono ?_; rintro e w' ⟨rfl, rfl⟩) | (go_at_call 32; refine (sIsFace_c _ _).mono ?_; rintro e w' ⟨rfl, rfl⟩) | (go_at_call 33; refine (iOffers_c _ _ _).mono ?_; rintro e w' ⟨rfl, rfl⟩))
        go_ret
        exact ⟨rfl, c2⟩
    have e1 := Pu.offersB_refl ha
    have e2 := Pu.offersB_zero ha
    have e3 := Pu.offersB_all ha
    rcases hf : Pu.faceB f with _ | _
    · rcases h1 : Pu.offersB a b with _ | _
      all_goals
        go_wp2_with (first | (go_at_call 31; refine (iIsFace_c _ _).mono ?_; rintro e w' ⟨rfl, rfl⟩) | (go_at_call 32; refine (sIsFace_c _ _).mono ?_; rintro e w' ⟨rfl, rfl⟩) | (go_at_call 33; refine (iOffers_c _ _ _).mono ?_; rintro e w' ⟨rfl, rfl⟩))
        go_ret
        exact ⟨rfl, c2⟩
    rcases h1 : Pu.offersB a b with _ | _
    · go_wp2_with (first | (go_at_call 31; refine (iIsFace_c _ _).mono ?_; rintro e w' ⟨rfl, rfl⟩) | (go_at_call 32; refine (sIsFace_c _ _).mono ?_; rintro e w' ⟨rfl, rfl⟩) | (go_at_call 33; refine (iOffers_c _ _ _).mono ?_; rintro e w' ⟨rfl, rfl⟩))
      go_ret
      exact ⟨rfl, c2⟩
    rcases h3 : Pu.offersB b f with _ | _
    · rcases h2 : Pu.offersB b a with _ | _
      · go_wp2_with (first | (go_at_call 31; refine (iIsFace_c _ _).mono ?_; rintro e w' ⟨rfl, rfl⟩) | (go_at_call 32; refine (sIsFace_c _ _).mono ?_; rintro e w' ⟨rfl, rfl⟩) | (go_at_call 33; refine (iOffers_c _ _ _).mono ?_; rintro e w' ⟨rfl, rfl⟩))
        go_ret
        exact ⟨rfl, c2⟩
      · obtain rfl := Pu.offersB_anti h1 h2
        clear h1 h2 hb
        go_wp2_with (first | (go_at_call 31; refine (iIsFace_c _ _).mono ?_; rintro e w' ⟨rfl, rfl⟩) | (go_at_call 32; refine (sIsFace_c _ _).mono ?_; rintro e w' ⟨rfl, rfl⟩) | (go_at_call 33; refine (iOffers_c _ _ _).mono ?_; rintro e w' ⟨rfl, rfl⟩))
        go_ret
        exact ⟨rfl, c2⟩
    · have h4 := Pu.offersB_trans h1 h3
      rcases h2 : Pu.offersB b a with _ | _
      · go_wp2_with (first | (go_at_call 31; refine (iIsFace_c _ _).mono ?_; rintro e w' ⟨rfl, rfl⟩) | (go_at_call 32; refine (sIsFace_c _ _).mono ?_; rintro e w' ⟨rfl, rfl⟩) | (go_at_call 33; refine (iOffers_c _ _ _).mono ?_; rintro e w' ⟨rfl, rfl⟩))
        go_ret
        exact ⟨rfl, c2⟩
      · obtain rfl := Pu.offersB_anti h1 h2
        clear h1 h2 hb h3
        go_wp2_with (first | (go_at_call 31; refine (iIsFace_c _ _).mono ?_; rintro e w' ⟨rfl, rfl⟩) | (go_at_call 32; refine (sIsFace_c _ _).mono ?_; rintro e w' ⟨rfl, rfl⟩) | (go_at_call 33; refine (iOffers_c _ _ _).mono ?_; rintro e w' ⟨rfl, rfl⟩))
        go_ret
        exact ⟨rfl, c2⟩
  · have hl : 4096 < a0.length := by simpa using hbig
    go_enter Try.func8, Try.ntmps8
    go_wp2_with fail
    refine (big_c _ _ _ H0.out).mono ?_; rintro e w' ⟨rfl, rfl⟩
    go_wp2_with fail
    go_ret
    exact ⟨rfl, Below.refl _ _⟩

set_option maxRecDepth 100000 in
theorem lifted (os : Os) (started : os.Started) (H : Type) (enc : TypeId × Value → H) :
    ReturnsInHanded {} Try.checked os 8 .any (Rows.fnOffersSpec.pre6 enc Try.prog Try.f8 Rows.fnOffersRow.domain false) (Rows.fnOffersSpec.post enc Try.prog Try.f8 false true false false) := by
  refine returnsInHanded_of_change (C := Try.checked) own started (by kernel_rfl) Try.func8
    (ChangeSpec.witness6 (enc := enc) (C := Try.checked) false ⟨#[], #[.slice none 0 0], []⟩ 8 (by kernel_rfl) (by kernel_rfl) (by kernel_rfl) (by kernel_rfl)) ?_
  intro W base args ds gs before hval0 hW _ _
  have hval : ∀ (j : Nat) t v, Try.f8.params[j]? = some t → args[j]? = some v → Value.okWide Try.prog W .any base t v := hval0
  have hW' := hW
  obtain ⟨p, q, hA0, hV, rfl, hfz, hnd⟩ := hW
  have hA : DataW.TrodAll enc Try.prog W 0 (fun _ => true) true Try.f8.params.toList args.toList ds p := hA0
  rw [Try.params8] at hA hval
  obtain ⟨v0, vs0, d0, ds0, p0, q0, hargs, rfl, rfl, h0, r0⟩ := trodAll_cons hA
  obtain ⟨rfl, rfl, rfl⟩ := trodAll_nil r0
  obtain rfl : args = #[v0] := by cases args; simp_all
  obtain ⟨rfl, rfl⟩ := trodVars_none hV
  obtain ⟨a0, hv0⟩ := open_bytes (hval 0 32 v0 rfl rfl) h0
  refine (walk W v0 a0 hv0).mono fun e W' ⟨he, hg⟩ => ?_
  subst he
  exact ⟨_, rfl, law_post (tb := 4) (by kernel_rfl) (by kernel_rfl) hW' hg rfl Try.underlying4 rfl rfl rfl rfl⟩

theorem over : Rows.fnOffersRow.holds Try.pinned (OpenSpec.ofChange Rows.fnOffersSpec) :=
  OpenClaim.holds_of_wide 8 Try.f8 rfl rfl rfl rfl rfl rfl rfl ⟨rfl, rfl, rfl, rfl, rfl⟩ rfl rfl rfl rfl rfl (by kernel_rfl) Try.func8 (by kernel_rfl)
    (of_decide_eq_true (by kernel_rfl)) (by unfold Func.isWrapper; first | (rw [if_pos (by decide +kernel)]; kernel_rfl) | (rw [if_neg (by decide +kernel)]; exact ⟨rfl, rfl⟩))
    (fun os started H enc _ => lifted os started H enc)

/-- The statement. -/
theorem proved : Rows.FnOffersSaid :=
  over
#print axioms proved
end Go.Proofs.Ytpenhmglegmclaa.fnOffers
