/- FnFaceText: for every input the law returns true, and its arguments read afterwards as they read before. No condition besides those of the statement itself. -/
import Derived.Test.YtlclealkbmlahaaDoorLawV
import Derived.Test.YtlclealkbmlahaaDoorCards
import Derived.Test.YtlclealkbmlahaaDoorTie
import Derived.LaidMore
import Derived.SevenTiedAt
import Derived.Stop.Joined
import Derived.Test.YtlclealkbmlahaaDoorDrawFaceT
import Derived.Test.YtlclealkbmlahaaDoorOpen
import Derived.ShutString
namespace Go.Proofs.YtlclealkbmlahaaDoor.fnFaceText
open Go.ChangeShapes Go.WideShapes Go.ChangeAt Go.RowKit
set_option maxRecDepth 100000
open Go.ChangeMaps (open_string shut_string)
set_option linter.unusedVariables false

theorem own : ownKnob Tryd.prog.godebug = none := by kernel_rfl

/-- The walk: the Go text returns true. -/
theorem walk (w : World) (hV : AbVars w) (v0 : Value) (a0 : List UInt8) (hv0 : RdL w 1 byteEn v0 a0) :
    Calls Tryd.prog 5 #[v0] w fun e w' => e = .returned (.bool true) ∧ Below w.heap.size w w' := by
  have hlt := hV.lt
  have HV := hide hV
  have H0 := hide hv0
  clear hv0 hV
  rcases hbig : decide (4096 < a0.length) with _ | _
  · have hl : a0.length ≤ 4096 := by simpa using hbig
    go_enter Tryd.func5, Tryd.ntmps5
    go_wp2_with fail
    refine (big_c _ _ _ H0.out).mono ?_; rintro e w' ⟨rfl, rfl⟩
    go_wp2_with fail
    refine (drawFormatFace_c _ _ _ H0.out hl).mono ?_; rintro e w1 ⟨f, rfl, _, b1⟩
    go_wp2_with fail
    refine (iFormatFace_c _ _ (HV.out.below b1 hlt)).mono ?_; rintro e w2 ⟨rfl, b2⟩
    have c2 := below_then b1 b2
    go_wp2_with fail
    refine (iParseFace_c _ _ (HV.out.below c2 hlt)).mono ?_; rintro e w3 ⟨rfl, b3⟩
    have c3 := below_then c2 b3
    have HP := hide (Pu.pf_faceT f)
    rw [HP.out]
    rcases hf : Pu.faceB f with _ | _
    · have HT : Hid (Pu.faceB f = false → Pu.faceT f = ⟨#[]⟩) := fun h => by rw [Pu.faceT, h]; rfl
      simp only [Bool.false_eq_true, if_false, if_true]
      go_wp2_with (first
        | (go_at_call 12; refine (iIsFace_c _ _).mono ?_; rintro e w' ⟨rfl, rfl⟩; rw [hf])
        | (go_at_call 13; refine (sIsFace_c _ _).mono ?_; rintro e w' ⟨rfl, rfl⟩; rw [hf])
        | (go_at_call 7; refine (iFormatFace_c _ _ (HV.out.below c3 hlt)).mono ?_; rintro e w4 ⟨rfl, b4⟩; rw [HT.out hf]; have c4 := below_then c3 b4)
        | fail)
      refine (drawParseFace_c _ _ _ (RdL.below H0.out c4 (Nat.le_refl _)) hl).mono ?_; rintro e w5 ⟨s, rfl, _, b5⟩
      have c5 := below_then c4 b5
      go_wp2_with fail
      refine (iParseFace_c _ _ (HV.out.below c5 hlt)).mono ?_; rintro e w6 ⟨rfl, b6⟩
      have c6 := below_then c5 b6
      obtain ⟨h, HH⟩ : ∃ h, Hid ((Pu.pf s).1 = h) := ⟨_, rfl⟩
      obtain ⟨q, HQ⟩ : ∃ q, Hid ((Pu.pf s).2 = q) := ⟨_, rfl⟩
      have HS : Hid (q = true → ((Pu.faceT h).toList == s.toList) = true) := fun e => by
        have h9 := Pu.pfFrom_hit s 64 0 (HQ.out.trans e)
        rw [← HH.out]; exact h9
      rw [HH.out, HQ.out]
      go_wp2_with fail
      refine (drawAbilityName_c _ _ _ (RdL.below H0.out c6 (Nat.le_refl _)) hl).mono ?_; rintro e w7 ⟨k, rfl, _, b7⟩
      have c7 := below_then c6 b7
      have HB := hide (Pu.abName_nul (k := k))
      rcases q with _ | _
      · rcases HB.out with hk | ⟨hk, hx⟩
        · go_wp2_with (first
            | (go_at_call 16; refine (iAbilityName_c _ _ (HV.out.below c7 hlt)).mono ?_; rintro e w' ⟨⟨t, ht, _, rfl⟩, rfl⟩; have hk' : (t.toList == []) = true := (by rw [ht]; exact hk)))
          go_ret
          exact ⟨rfl, c7⟩
        · go_wp2_with (first
            | (have _second := hk'; go_at_call 16; refine (iAbilityName_c _ _ (HV.out.below c7 hlt)).mono ?_; rintro e w' ⟨⟨t2, ht2, _, rfl⟩, rfl⟩; have hx' : Pu.abIx t2.toList = k := (by rw [ht2]; exact hx))
            | (go_at_call 16; refine (iAbilityName_c _ _ (HV.out.below c7 hlt)).mono ?_; rintro e w' ⟨⟨t, ht, _, rfl⟩, rfl⟩; have hk' : (t.toList == []) = false := (by rw [ht]; exact hk))
            | (go_at_call 17; refine (iAbilityOf_c _ _ (HV.out.below c7 hlt)).mono ?_; rintro e w' ⟨rfl, rfl⟩; rw [hx']))
          go_ret
          exact ⟨rfl, c7⟩
      · have hs := HS.out rfl
        rcases HB.out with hk | ⟨hk, hx⟩
        · go_wp2_with (first
            | (go_at_call 7; refine (iFormatFace_c _ _ (HV.out.below c7 hlt)).mono ?_; rintro e w8 ⟨rfl, b8⟩; have c8 := below_then c7 b8)
            | (go_at_call 16; refine (iAbilityName_c _ _ (HV.out.below c8 hlt)).mono ?_; rintro e w' ⟨⟨t, ht, _, rfl⟩, rfl⟩; have hk' : (t.toList == []) = true := (by rw [ht]; exact hk)))
          go_ret
          exact ⟨rfl, c8⟩
        · go_wp2_with (first
            | (go_at_call 7; refine (iFormatFace_c _ _ (HV.out.below c7 hlt)).mono ?_; rintro e w8 ⟨rfl, b8⟩; have c8 := below_then c7 b8)
            | (have _second := hk'; go_at_call 16; refine (iAbilityName_c _ _ (HV.out.below c8 hlt)).mono ?_; rintro e w' ⟨⟨t2, ht2, _, rfl⟩, rfl⟩; have hx' : Pu.abIx t2.toList = k := (by rw [ht2]; exact hx))
            | (go_at_call 16; refine (iAbilityName_c _ _ (HV.out.below c8 hlt)).mono ?_; rintro e w' ⟨⟨t, ht, _, rfl⟩, rfl⟩; have hk' : (t.toList == []) = false := (by rw [ht]; exact hk))
            | (go_at_call 17; refine (iAbilityOf_c _ _ (HV.out.below c8 hlt)).mono ?_; rintro e w' ⟨rfl, rfl⟩; rw [hx']))
          go_ret
          exact ⟨rfl, c8⟩
    · have HT : Hid (Pu.faceB f = false → Pu.faceT f = ⟨#[]⟩) := fun h => by rw [Pu.faceT, h]; rfl
      simp only [Bool.false_eq_true, if_false, if_true]
      go_wp2_with (first
        | (go_at_call 12; refine (iIsFace_c _ _).mono ?_; rintro e w' ⟨rfl, rfl⟩; rw [hf])
        | (go_at_call 13; refine (sIsFace_c _ _).mono ?_; rintro e w' ⟨rfl, rfl⟩; rw [hf])
        | (go_at_call 7; refine (iFormatFace_c _ _ (HV.out.below c3 hlt)).mono ?_; rintro e w4 ⟨rfl, b4⟩; rw [HT.out hf]; have c4 := below_then c3 b4)
        | fail)
      refine (drawParseFace_c _ _ _ (RdL.below H0.out c3 (Nat.le_refl _)) hl).mono ?_; rintro e w5 ⟨s, rfl, _, b5⟩
      have c5 := below_then c3 b5
      go_wp2_with fail
      refine (iParseFace_c _ _ (HV.out.below c5 hlt)).mono ?_; rintro e w6 ⟨rfl, b6⟩
      have c6 := below_then c5 b6
      obtain ⟨h, HH⟩ : ∃ h, Hid ((Pu.pf s).1 = h) := ⟨_, rfl⟩
      obtain ⟨q, HQ⟩ : ∃ q, Hid ((Pu.pf s).2 = q) := ⟨_, rfl⟩
      have HS : Hid (q = true → ((Pu.faceT h).toList == s.toList) = true) := fun e => by
        have h9 := Pu.pfFrom_hit s 64 0 (HQ.out.trans e)
        rw [← HH.out]; exact h9
      rw [HH.out, HQ.out]
      go_wp2_with fail
      refine (drawAbilityName_c _ _ _ (RdL.below H0.out c6 (Nat.le_refl _)) hl).mono ?_; rintro e w7 ⟨k, rfl, _, b7⟩
      have c7 := below_then c6 b7
      have HB := hide (Pu.abName_nul (k := k))
      rcases q with _ | _
      · rcases HB.out with hk | ⟨hk, hx⟩
        · go_wp2_with (first
            | (go_at_call 16; refine (iAbilityName_c _ _ (HV.out.below c7 hlt)).mono ?_; rintro e w' ⟨⟨t, ht, _, rfl⟩, rfl⟩; have hk' : (t.toList == []) = true := (by rw [ht]; exact hk)))
          go_ret
          exact ⟨rfl, c7⟩
        · go_wp2_with (first
            | (have _second := hk'; go_at_call 16; refine (iAbilityName_c _ _ (HV.out.below c7 hlt)).mono ?_; rintro e w' ⟨⟨t2, ht2, _, rfl⟩, rfl⟩; have hx' : Pu.abIx t2.toList = k := (by rw [ht2]; exact hx))
            | (go_at_call 16; refine (iAbilityName_c _ _ (HV.out.below c7 hlt)).mono ?_; rintro e w' ⟨⟨t, ht, _, rfl⟩, rfl⟩; have hk' : (t.toList == []) = false := (by rw [ht]; exact hk))
            | (go_at_call 17; refine (iAbilityOf_c _ _ (HV.out.below c7 hlt)).mono ?_; rintro e w' ⟨rfl, rfl⟩; rw [hx']))
          go_ret
          exact ⟨rfl, c7⟩
      · have hs := HS.out rfl
        rcases HB.out with hk | ⟨hk, hx⟩
        · go_wp2_with (first
            | (go_at_call 7; refine (iFormatFace_c _ _ (HV.out.below c7 hlt)).mono ?_; rintro e w8 ⟨rfl, b8⟩; have c8 := below_then c7 b8)
            | (go_at_call 16; refine (iAbilityName_c _ _ (HV.out.below c8 hlt)).mono ?_; rintro e w' ⟨⟨t, ht, _, rfl⟩, rfl⟩; have hk' : (t.toList == []) = true := (by rw [ht]; exact hk)))
          go_ret
          exact ⟨rfl, c8⟩
        · go_wp2_with (first
            | (go_at_call 7; refine (iFormatFace_c _ _ (HV.out.below c7 hlt)).mono ?_; rintro e w8 ⟨rfl, b8⟩; have c8 := below_then c7 b8)
            | (have _second := hk'; go_at_call 16; refine (iAbilityName_c _ _ (HV.out.below c8 hlt)).mono ?_; rintro e w' ⟨⟨t2, ht2, _, rfl⟩, rfl⟩; have hx' : Pu.abIx t2.toList = k := (by rw [ht2]; exact hx))
            | (go_at_call 16; refine (iAbilityName_c _ _ (HV.out.below c8 hlt)).mono ?_; rintro e w' ⟨⟨t, ht, _, rfl⟩, rfl⟩; have hk' : (t.toList == []) = false := (by rw [ht]; exact hk))
            | (go_at_call 17; refine (iAbilityOf_c _ _ (HV.out.below c8 hlt)).mono ?_; rintro e w' ⟨rfl, rfl⟩; rw [hx']))
          go_ret
          exact ⟨rfl, c8⟩
  · go_enter Tryd.func5, Tryd.ntmps5
    go_wp2_with fail
    refine (big_c _ _ _ H0.out).mono ?_; rintro e w' ⟨rfl, rfl⟩
    go_wp2
    go_ret
    exact ⟨rfl, Below.refl _ _⟩

/-- The heap that the door leaves meets the condition. -/
theorem door_met (os : Os) (args : Array Value) : laidMetH Tryd.prog Rows.fnFaceTextRow.laid ((World.doorLaid Tryd.prog 14 os).forCall (fun _ _ => 0) ⟨#[], args, []⟩).memory :=
  laidMetH_of_parts3 (fuel := 8) (laidMet_of_run' 8 (by kernel_rfl) (by kernel_rfl)) (by kernel_rfl) (by kernel_rfl)

set_option maxRecDepth 100000 in
theorem lifted (os : Os) (started : os.Started) (H : Type) (enc : TypeId × Value → H) :
    ReturnsInHanded {} Tryd.checked os 5 .any (fun w args => (Rows.fnFaceTextSpec.pre enc Tryd.prog Tryd.f5 [] false w args ∧ laidMetH Tryd.prog Rows.fnFaceTextRow.laid w) ∧ sizedMet enc Tryd.prog Tryd.f5 (OpenSpec.ofChange Rows.fnFaceTextSpec) false w args) (Rows.fnFaceTextSpec.post enc Tryd.prog Tryd.f5 false true false false) := by
  refine returnsInHanded_of_change_and (C := Tryd.checked) (X := fun w _ => laidMetH Tryd.prog Rows.fnFaceTextRow.laid w) (fun _ _ _ hh h => h.of_heap hh) own started (by kernel_rfl) Tryd.func5
    (ChangeSpec.witness_shaped (enc := enc) (C := Tryd.checked) (os := os) (X := fun w _ => laidMetH Tryd.prog Rows.fnFaceTextRow.laid w) false (World.doorLaid Tryd.prog 14 os) #[.slice none 0 0] 8 rfl (World.shaped_of_RefB (by kernel_rfl) (by kernel_rfl)) (by kernel_rfl) (by kernel_rfl) (by kernel_rfl) (door_met os _)) ?_
  intro W base args ds gs before hval0 hW _ _ hL _
  have hval : ∀ (j : Nat) t v, Tryd.f5.params[j]? = some t → args[j]? = some v → Value.okWide Tryd.prog W .any base t v := hval0
  have hW' := hW
  obtain ⟨p, q, hA0, hV, rfl, hfz, hnd⟩ := hW
  have hA : DataW.TrodAll enc Tryd.prog W 0 (fun _ => true) true Tryd.f5.params.toList args.toList ds p := hA0
  rw [Tryd.params5] at hA hval
  obtain ⟨v0, vs0, d0, ds0, p0, q0, hargs, rfl, rfl, h0, r0⟩ := trodAll_cons hA
  obtain ⟨rfl, rfl, rfl⟩ := trodAll_nil r0
  obtain rfl : args = #[v0] := by cases args; simp_all
  obtain ⟨_, _, _, _, _, _, rfl, _⟩ := trodVars_one hV
  obtain ⟨a0, hv0⟩ := open_bytes (hval 0 27 v0 rfl rfl) h0
  refine (walk W (ab_of_laid hL) v0 a0 hv0).mono fun e W' ⟨he, hg⟩ => ?_
  subst he
  exact ⟨_, rfl, law_postV (tb := 4) (by kernel_rfl) (by kernel_rfl) (by kernel_rfl) hW' hg rfl Tryd.underlying4 rfl rfl rfl⟩

theorem over : Rows.FnFaceTextSaid :=
  OpenClaim.holds_of_wide 5 Tryd.f5 rfl rfl rfl rfl rfl rfl rfl ⟨rfl, rfl, rfl, rfl, rfl⟩ rfl rfl rfl rfl rfl (by kernel_rfl) Tryd.func5 (by kernel_rfl)
    (of_decide_eq_true (by kernel_rfl)) (by unfold Func.isWrapper; first | (rw [if_pos (by decide +kernel)]; kernel_rfl) | (rw [if_neg (by decide +kernel)]; exact ⟨rfl, rfl⟩))
    (fun os started H enc _ => lifted os started H enc)

/-- The statement: the tied card. -/
theorem proved : Rows.FnFaceTextCardSaid :=
  Claim7.holds_tied_plain_at .later [] [.data] true (true, "1cbc580949be927bf3cca0dbd6e805d5fd7103f4bccce32e43867e5be140ea78") false over (fun _ h => by cases h) (by kernel_rfl) (fun _ h => by cases h) fnFaceText_row_tie rfl ⟨rfl, rfl⟩ (by kernel_rfl) rfl
    (fun f fn hf hfn => by
      obtain rfl : 5 = f := Option.some.inj ((show Tryd.prog.funcNamed Rows.fnFaceTextRow.func = some 5 by kernel_rfl).symm.trans hf)
      obtain rfl : Tryd.f5 = fn := Option.some.inj (Tryd.func5.symm.trans hfn)
      exact ⟨by kernel_rfl, fun j t ht => by
        rw [Tryd.params5] at ht
        have hm : t ∈ [27] := by simpa using Array.mem_of_getElem? ht
        have hall : ([27].all fun u => !Tryd.prog.wantsStandIn u) = true := by kernel_rfl
        exact (show Tryd.prog.wantsStandIn t = false by simpa using List.all_eq_true.1 hall t hm)⟩)
    (by kernel_rfl)
#print axioms proved
end Go.Proofs.YtlclealkbmlahaaDoor.fnFaceText
