/- FnMethods: for every input the law returns true, and its arguments read afterwards as they read before. No condition besides those of the statement itself. -/
import Derived.Test.YtcnhglellnglgaaLaw
import Derived.Test.YtcnhglellnglgaaDrawFace
import Derived.Test.YtcnhglellnglgaaOpen
import Derived.Test.YtcnhglellnglgaaMeths
import Derived.Test.YtcnhglellnglgaaMethsPure
import Derived.Test.YtcnhglellnglgaaHasText
import Derived.ShutString
namespace Go.Proofs.Ytcnhglellnglgaa.fnMethods
open Go.ChangeShapes Go.WideShapes Go.ChangeAt Go.RowKit
set_option maxRecDepth 100000
open Go.ChangeMaps (open_string shut_string)
set_option linter.unusedVariables false

theorem own : ownKnob Try.prog.godebug = none := by kernel_rfl

/-- The walk: the Go text returns true. -/
theorem walk (w : World) (v0 : Value) (a0 : List UInt8) (hv0 : RdL w 1 byteEn v0 a0) :
    Calls Try.prog 5 #[v0] w fun e w' => e = .returned (.bool true) ∧ Below w.heap.size w w' := by
  have H0 := hide hv0
  clear hv0
  rcases hbig : decide (4096 < a0.length) with _ | _
  · have hl : a0.length ≤ 4096 := by simpa using hbig
    go_enter Try.func5, Try.ntmps5
    go_wp2_with fail
    refine (big_c _ _ _ H0.out).mono ?_; rintro e w' ⟨rfl, rfl⟩
    go_wp2_with fail
    refine (drawOffers_c _ _ _ H0.out hl).mono ?_; rintro e w1 ⟨a, b, rfl, _, _, b1⟩
    clear hbig hl
    rcases ha : Pu.faceB a with _ | _
    · have hm : Hid (Pu.methsF a = []) := by rw [Hid, Pu.methsF, ha]; rfl
      go_wp2_with (first
        | (go_at_call 17; refine (iIsFace_c _ _).mono ?_; rintro e w' ⟨rfl, rfl⟩; rw [ha])
        | (go_at_call 18; refine (sIsFace_c _ _).mono ?_; rintro e w' ⟨rfl, rfl⟩; rw [ha])
        | (go_at_call 14; refine (iFaceMethods_c _ _).mono ?_; rintro e w2 ⟨v2, rfl, o2, b2⟩; rw [hm.out] at o2; obtain ⟨A2, k2, rfl⟩ := o2.empty rfl))
      go_ret
      exact ⟨rfl, below_then b1 b2⟩
    rcases hb : Pu.faceB b with _ | _
    · obtain ⟨ma, HMA⟩ : ∃ m, Hid (Pu.methsF a = m) := ⟨_, rfl⟩
      have hml := Pu.methsF_len a
      rw [HMA.out] at hml
      go_wp2_with (first
        | (go_at_call 17; refine (iIsFace_c _ _).mono ?_; rintro e w' ⟨rfl, rfl⟩; first | rw [ha] | rw [hb])
        | (go_at_call 18; refine (sIsFace_c _ _).mono ?_; rintro e w' ⟨rfl, rfl⟩; rw [ha])
        | (go_at_call 14; refine (iFaceMethods_c _ _).mono ?_; rintro e w2 ⟨v2, rfl, o2, b2⟩; rw [HMA.out] at o2; have r2 : RdStr w2 v2 ma := o2.rd (fun _ => rfl); obtain ⟨A2, k2, rfl, _, _, _⟩ := r2.open_))
      all_goals (go_ret; exact ⟨rfl, below_then b1 b2⟩)
    have HO : Hid (Pu.offersB a b = Pu.allIn (Pu.methsF a) (Pu.methsF b)) := Pu.offers_meths ha hb
    have HF : Hid ((Pu.faceOf (Pu.methsF a) 6 : Int) = a) := Pu.face_meths ha
    have HK : Hid (∀ x ∈ Pu.methsF b, ∃ k : Nat, k < 6 ∧ Pu.abOf x.toList = k ∧ Pu.offersB b (2 ^ k) = true) := fun x hx => Pu.meth_known hb hx
    have hml : (Pu.methsF b).length ≤ 12 := Pu.methsF_len b
    obtain ⟨ma, HMA⟩ : ∃ m, Hid (Pu.methsF a = m) := ⟨_, rfl⟩
    obtain ⟨mb, HMB⟩ : ∃ m, Hid (Pu.methsF b = m) := ⟨_, rfl⟩
    rw [HMB.out] at hml
    rw [HMA.out, HMB.out] at HO
    rw [HMA.out] at HF
    rw [HMB.out] at HK
    go_wp2_with (first | (go_at_call 17; refine (iIsFace_c _ _).mono ?_; rintro e w' ⟨rfl, rfl⟩; first | rw [ha] | rw [hb]) | (go_at_call 18; refine (sIsFace_c _ _).mono ?_; rintro e w' ⟨rfl, rfl⟩; rw [ha]))
    refine (iFaceMethods_c _ _).mono ?_; rintro e w2 ⟨v2, rfl, o2, b2⟩
    rw [HMA.out] at o2
    have c2 := below_then b1 b2
    go_wp2_with fail
    refine (iFaceMethods_c _ _).mono ?_; rintro e w3 ⟨v3, rfl, o3, b3⟩
    rw [HMB.out] at o3
    have c3 := below_then c2 b3
    have r2 : RdStr w3 v2 ma := RdL.below (o2.rd (fun _ => rfl)) b3 (Nat.le_refl _)
    have r3 : RdStr w3 v3 mb := o3.rd (fun _ => rfl)
    obtain ⟨A3, k3, rfl, hlc3, hcm3, hA3⟩ := r3.open_
    have HA := hide hA3
    have R2 := hide r2
    have C3 := hide c3
    clear o2 o3 b2 b3 c2 c3 hA3 r2 r3 b1
    go_wp2_with fail
    go_loopw [7, 8] (fun q i wr => ∃ (j : Nat) (t : Bool), j ≤ mb.length ∧ i = .int .i64 j ∧ q = .bool t ∧ Hid (Pu.allIn ma mb = (t && Pu.allIn ma (mb.drop j))) ∧ Below w3.heap.size w3 wr) (fun _ i _ => mb.length - (intOf i).toNat)
    case atStart => exact ⟨0, true, by omega, rfl, rfl, by simp [Hid], Below.refl _ _⟩
    case round =>
      obtain ⟨j, t, hj, rfl, rfl, HD, hb3⟩ := hrel
      by_cases hlt : j < mb.length
      · obtain ⟨g, o, rfl, hg, HC⟩ := HA.out.at_ (by omega)
        obtain ⟨x, HX, h0⟩ := str_get HC hb3 hlt
        have HE := hide (dropL HX)
        obtain ⟨k, hk6, hab, hof⟩ := HK.out x (List.mem_of_getElem? HX.out)
        rcases t with _ | _
        · obtain rfl | rfl | rfl | rfl | rfl | rfl : k = 0 ∨ k = 1 ∨ k = 2 ∨ k = 3 ∨ k = 4 ∨ k = 5 := by omega
          all_goals
            simp only [Int.reducePow] at hof
            go_wp2_with (first
              | (go_at_call 19; refine (has_c _ _ _ _ (RdL.below R2.out hb3 (Nat.le_refl _))).mono ?_; rintro e w4 ⟨rfl, b4⟩; have hb4 := below_then hb3 b4; have h4 : w4.cell? ⟨g, o + j, none⟩ = some (.string x) := (b4.cell (p := ⟨g, o + j, none⟩) (Nat.lt_of_lt_of_le hg hb3.size)).trans h0)
              | (have _second := hb5; go_at_call 20; refine (iAbilityOfMethod_c _ _).mono ?_; rintro e w6 ⟨rfl, b6⟩; rw [hab]; have hb6 := below_then hb5 b6)
              | (go_at_call 20; refine (iAbilityOfMethod_c _ _).mono ?_; rintro e w5 ⟨rfl, b5⟩; rw [hab]; have hb5 := below_then hb3 b5; have h5 : w5.cell? ⟨g, o + j, none⟩ = some (.string x) := (b5.cell (p := ⟨g, o + j, none⟩) (Nat.lt_of_lt_of_le hg (Below.size hb3))).trans h0)
              | (go_at_call 21; refine (iOffers_c _ _ _).mono ?_; rintro e w' ⟨rfl, rfl⟩; rw [hof]))
            go_roundw
            case rel => exact ⟨j + 1, false, by omega, by go_num, rfl, HD, hb6⟩
            case measure => simp [intOf]; omega
        · have HG : Hid (Pu.allIn ma mb = (Pu.hasT ma x.toList && Pu.allIn ma (mb.drop (j + 1)))) := by rw [Hid, HD.out, HE.out, Bool.true_and, Pu.allIn]
          obtain rfl | rfl | rfl | rfl | rfl | rfl : k = 0 ∨ k = 1 ∨ k = 2 ∨ k = 3 ∨ k = 4 ∨ k = 5 := by omega
          all_goals
            simp only [Int.reducePow] at hof
            go_wp2_with (first
              | (go_at_call 19; refine (has_c _ _ _ _ (RdL.below R2.out hb3 (Nat.le_refl _))).mono ?_; rintro e w4 ⟨rfl, b4⟩; have hb4 := below_then hb3 b4; have h4 : w4.cell? ⟨g, o + j, none⟩ = some (.string x) := (b4.cell (p := ⟨g, o + j, none⟩) (Nat.lt_of_lt_of_le hg hb3.size)).trans h0)
              | (have _second := hb5; go_at_call 20; refine (iAbilityOfMethod_c _ _).mono ?_; rintro e w6 ⟨rfl, b6⟩; rw [hab]; have hb6 := below_then hb5 b6)
              | (go_at_call 20; refine (iAbilityOfMethod_c _ _).mono ?_; rintro e w5 ⟨rfl, b5⟩; rw [hab]; have hb5 := below_then hb4 b5; have h5 : w5.cell? ⟨g, o + j, none⟩ = some (.string x) := (b5.cell (p := ⟨g, o + j, none⟩) (Nat.lt_of_lt_of_le hg (Below.size hb4))).trans h4)
              | (go_at_call 21; refine (iOffers_c _ _ _).mono ?_; rintro e w' ⟨rfl, rfl⟩; rw [hof]))
            go_roundw
            case rel => exact ⟨j + 1, _, by omega, by go_num, rfl, HG, hb6⟩
            case measure => simp [intOf]; omega
      · have HE := hide (dropEnd (l := mb) (k := j) (by omega))
        have HX : Hid (Pu.allIn ma mb = t) := by rw [Hid, HD.out, HE.out]; simp [Pu.allIn]
        go_wp2_with (first
          | (go_at_call 22; refine (iFaceOfMethods_c _ _ _ (RdL.below R2.out hb3 (Nat.le_refl _))).mono ?_; rintro e w4 ⟨rfl, b4⟩; rw [HF.out])
          | (go_at_call 21; refine (iOffers_c _ _ _).mono ?_; rintro e w' ⟨rfl, rfl⟩; rw [HO.out, HX.out]))
        go_ret
        exact ⟨rfl, below_then (C3.out.trans (hb3.mono C3.out.size)) b4⟩
  · go_enter Try.func5, Try.ntmps5
    go_wp2_with fail
    refine (big_c _ _ _ H0.out).mono ?_; rintro e w' ⟨rfl, rfl⟩
    go_wp2
    go_ret
    exact ⟨rfl, Below.refl _ _⟩

set_option maxRecDepth 100000 in
theorem lifted (os : Os) (started : os.Started) (H : Type) (enc : TypeId × Value → H) :
    ReturnsInHanded {} Try.checked os 5 .any (Rows.fnMethodsSpec.pre6 enc Try.prog Try.f5 Rows.fnMethodsRow.domain false) (Rows.fnMethodsSpec.post enc Try.prog Try.f5 false true false false) := by
  refine returnsInHanded_of_change (C := Try.checked) own started (by kernel_rfl) Try.func5
    (ChangeSpec.witness6 (enc := enc) (C := Try.checked) false ⟨#[], #[.slice none 0 0], []⟩ 8 (by kernel_rfl) (by kernel_rfl) (by kernel_rfl) (by kernel_rfl)) ?_
  intro W base args ds gs before hval0 hW _ _
  have hval : ∀ (j : Nat) t v, Try.f5.params[j]? = some t → args[j]? = some v → Value.okWide Try.prog W .any base t v := hval0
  have hW' := hW
  obtain ⟨p, q, hA0, hV, rfl, hfz, hnd⟩ := hW
  have hA : DataW.TrodAll enc Try.prog W 0 (fun _ => true) true Try.f5.params.toList args.toList ds p := hA0
  rw [Try.params5] at hA hval
  obtain ⟨v0, vs0, d0, ds0, p0, q0, hargs, rfl, rfl, h0, r0⟩ := trodAll_cons hA
  obtain ⟨rfl, rfl, rfl⟩ := trodAll_nil r0
  obtain rfl : args = #[v0] := by cases args; simp_all
  obtain ⟨rfl, rfl⟩ := trodVars_none hV
  obtain ⟨a0, hv0⟩ := open_bytes (hval 0 29 v0 rfl rfl) h0
  refine (walk W v0 a0 hv0).mono fun e W' ⟨he, hg⟩ => ?_
  subst he
  exact ⟨_, rfl, law_post (tb := 4) (by kernel_rfl) (by kernel_rfl) hW' hg rfl Try.underlying4 rfl rfl rfl rfl⟩

theorem over : Rows.fnMethodsRow.holds Try.pinned (OpenSpec.ofChange Rows.fnMethodsSpec) :=
  OpenClaim.holds_of_wide 5 Try.f5 rfl rfl rfl rfl rfl rfl rfl ⟨rfl, rfl, rfl, rfl, rfl⟩ rfl rfl rfl rfl rfl (by kernel_rfl) Try.func5 (by kernel_rfl)
    (of_decide_eq_true (by kernel_rfl)) (by unfold Func.isWrapper; first | (rw [if_pos (by decide +kernel)]; kernel_rfl) | (rw [if_neg (by decide +kernel)]; exact ⟨rfl, rfl⟩))
    (fun os started H enc _ => lifted os started H enc)

/-- The statement. -/
theorem proved : Rows.FnMethodsSaid :=
  over
#print axioms proved
end Go.Proofs.Ytcnhglellnglgaa.fnMethods
