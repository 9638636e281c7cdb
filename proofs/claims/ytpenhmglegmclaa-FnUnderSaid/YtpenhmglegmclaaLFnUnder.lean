/- FnUnder: for every input the law returns true, and its arguments read afterwards as they read before. No condition besides those of the statement itself. -/
import Derived.Test.YtpenhmglegmclaaLaw
import Derived.Test.YtpenhmglegmclaaDrawFace
import Derived.Test.YtpenhmglegmclaaFace2
import Derived.Test.YtpenhmglegmclaaFaceLaws
import Derived.Test.YtpenhmglegmclaaInts
import Derived.Test.YtpenhmglegmclaaOpen
import Derived.ShutString
namespace Go.Proofs.Ytpenhmglegmclaa.fnUnder
open Go.ChangeShapes Go.WideShapes Go.ChangeAt Go.RowKit
open Go.ChangeMaps (open_string shut_string)
set_option linter.unusedVariables false

theorem own : ownKnob Try.prog.godebug = none := by kernel_rfl

set_option maxHeartbeats 1000000 in
/-- The walk: the Go text returns true. -/
theorem walk (w : World) (v0 : Value) (a0 : List UInt8) (hv0 : RdL w 1 byteEn v0 a0) :
    Calls Try.prog 12 #[v0] w fun e w' => e = .returned (.bool true) ∧ Below w.heap.size w w' := by
  have H0 := hide hv0
  clear hv0
  rcases hbig : decide (4096 < a0.length) with _ | _
  · have hl : a0.length ≤ 4096 := by simpa using hbig
    go_enter Try.func12, Try.ntmps12
    go_wp2_with fail
    refine (big_c _ _ _ H0.out).mono ?_; rintro e w' ⟨rfl, rfl⟩
    go_wp2_with fail
    refine (drawFacesUnder_c _ _ _ H0.out hl).mono ?_; rintro e w1 ⟨f, rfl, _, b1⟩
    clear hbig hl
    have hul := Pu.under_len f 64
    go_wp2_with fail
    refine (iFacesUnder_c _ _).mono ?_; rintro e w2 ⟨v2, rfl, o2, b2⟩
    have r2 : RdInt w2 v2 _ := o2.rd (fun _ => rfl)
    have c2 := below_then b1 b2
    obtain ⟨A, c, rfl, hlc, hcm, hA⟩ := RdL.open_ r2
    have HA := hide hA
    clear hA
    go_wp2_with fail
    refine (sFacesUnder_c _ _).mono ?_; rintro e w3 ⟨v3, rfl, o3, b3⟩
    have r3 : RdInt w3 v3 _ := o3.rd (fun _ => rfl)
    have c3 := below_then c2 b3
    obtain ⟨B, d, rfl, hld, hdm, hB⟩ := RdL.open_ r3
    clear hB r3 o3 r2 o2
    rcases hf : Pu.faceB f with _ | _
    · have hz := Pu.under_none hf 64
      rw [hz]
      go_wp2_with (go_at_call 31; refine (iIsFace_c _ _).mono ?_; rintro e w' ⟨rfl, rfl⟩)
      go_ret
      exact ⟨rfl, c3⟩
    · have hf0 : 0 ≤ f := by simp [Pu.faceB] at hf; omega
      obtain ⟨n, rfl, hn64⟩ := Pu.nat_of_faceB hf
      have HC := hide (Pu.under_count n hn64)
      obtain ⟨l, HL⟩ : ∃ l, Hid (Pu.under n 64 = l) := ⟨_, rfl⟩
      have HM : Hid (∀ x, x ∈ l → Pu.offersB n x = true) := fun x hx => (Pu.under_mem n 64 x (by rw [HL.out]; exact hx)).2.2
      have HS : Hid (∀ i x y, l[i]? = some x → l[i + 1]? = some y → x < y) := by rw [← HL.out]; exact Pu.under_asc n 64
      rw [HL.out] at HA hlc hul HC hld ⊢
      go_wp2_with (go_at_call 31; refine (iIsFace_c _ _).mono ?_; rintro e w' ⟨rfl, rfl⟩)
      go_loopw [5] (fun i wr => ∃ k : Nat, k ≤ l.length ∧ i = .int .i64 k ∧ Below w.heap.size w wr ∧ Below w2.heap.size w2 wr) (fun i _ => l.length - (intOf i).toNat)
      case atStart => exact ⟨0, by omega, rfl, c3, b3⟩
      case round =>
        obtain ⟨k, hk, rfl, hb, hb2⟩ := hrel
        by_cases hlt : k < l.length
        · obtain ⟨g, o, rfl, hg, HX⟩ := HA.out.at_ (by omega)
          obtain ⟨x, HY, h0⟩ := int_get HX hb2 hlt
          have hox := HM.out x (List.mem_of_getElem? HY.out)
          by_cases hk0 : 0 < k
          · obtain ⟨y, HZ, h1⟩ := int_get HX hb2 (k := k - 1) (by omega)
            have hyx : y < x := HS.out (k - 1) y x HZ.out (by rw [Nat.sub_add_cancel hk0]; exact HY.out)
            have hyx' : ¬ x ≤ y := by omega
            have e2 : 0 ≤ (k : Int) - 1 := by omega
            have e2' : 1 ≤ (k : Int) := by omega
            have e3 : (k : Int) - 1 < (l.length : Int) := by omega
            have e1 : IntKind.i64.wrap ((k : Int) - 1) = (k : Int) - 1 := IntWalk.i64_in _ (by omega)
            have e4 : ((k : Int) - 1).toNat = k - 1 := by omega
            go_wp2_with fail
            go_quiet ((go_at_call 33; exact quiet_same (iOffers_c _ _ _)))
            go_wp2
            go_roundw
            case rel => exact ⟨k + 1, by omega, by go_num, below_drewN hb _, below_drewN hb2 _⟩
            case measure => simp [intOf]; omega
          · go_wp2_with fail
            go_quiet ((go_at_call 33; exact quiet_same (iOffers_c _ _ _)))
            go_wp2
            go_roundw
            case rel => exact ⟨k + 1, by omega, by go_num, below_drewN hb _, below_drewN hb2 _⟩
            case measure => simp [intOf]; omega
        · have hcf : Pu.countF (n : Int) = ((Pu.cnt (n : Int) 6 : Nat) : Int) := by rw [Pu.countF, if_pos hf]
          have hC6 := Pu.cnt_le (n : Int) 6
          obtain ⟨C, hC⟩ : ∃ C, Pu.cnt (n : Int) 6 = C := ⟨_, rfl⟩
          rw [hC] at hcf hC6
          have HCC := hide hC
          clear hC
          go_wp2
          go_loopw [6, 7] (fun m j wx => ∃ q : Nat, q ≤ C ∧ j = .int .i64 q ∧ m = .int .i64 (Pu.dbl q : Nat) ∧ wx = wr) (fun _ j _ => C - (intOf j).toNat)
          case atStart => exact ⟨0, by omega, rfl, rfl, rfl⟩
          case round =>
            obtain ⟨q, hq, rfl, rfl, rfl⟩ := hrel
            by_cases hqC : q < C
            · have hd := Pu.dbl_le q (by omega)
              go_wp2_with (go_at_call 20; refine (iCountFace_c _ _).mono ?_; rintro e w' ⟨rfl, rfl⟩)
              go_roundw
              case rel => exact ⟨q + 1, by omega, by go_num, by rw [Pu.dbl]; go_num, trivial⟩
              case measure => simp [intOf]; omega
            · obtain rfl : q = C := by omega
              have hlen : (l.length : Int) = (Pu.dbl q : Nat) := by rw [HC.out, HCC.out]
              have HLEN := hide hlen
              clear hlen
              go_wp2_with (go_at_call 20; refine (iCountFace_c _ _).mono ?_; rintro e w' ⟨rfl, rfl⟩)
              go_ret
              exact ⟨ret_bool (by rw [HLEN.out]; simp), hb⟩
  · have hl : 4096 < a0.length := by simpa using hbig
    go_enter Try.func12, Try.ntmps12
    go_wp2_with fail
    refine (big_c _ _ _ H0.out).mono ?_; rintro e w' ⟨rfl, rfl⟩
    go_wp2_with fail
    go_ret
    exact ⟨rfl, Below.refl _ _⟩

set_option maxRecDepth 100000 in
theorem lifted (os : Os) (started : os.Started) (H : Type) (enc : TypeId × Value → H) :
    ReturnsInHanded {} Try.checked os 12 .any (Rows.fnUnderSpec.pre6 enc Try.prog Try.f12 Rows.fnUnderRow.domain false) (Rows.fnUnderSpec.post enc Try.prog Try.f12 false true false false) := by
  refine returnsInHanded_of_change (C := Try.checked) own started (by kernel_rfl) Try.func12
    (ChangeSpec.witness6 (enc := enc) (C := Try.checked) false ⟨#[], #[.slice none 0 0], []⟩ 8 (by kernel_rfl) (by kernel_rfl) (by kernel_rfl) (by kernel_rfl)) ?_
  intro W base args ds gs before hval0 hW _ _
  have hval : ∀ (j : Nat) t v, Try.f12.params[j]? = some t → args[j]? = some v → Value.okWide Try.prog W .any base t v := hval0
  have hW' := hW
  obtain ⟨p, q, hA0, hV, rfl, hfz, hnd⟩ := hW
  have hA : DataW.TrodAll enc Try.prog W 0 (fun _ => true) true Try.f12.params.toList args.toList ds p := hA0
  rw [Try.params12] at hA hval
  obtain ⟨v0, vs0, d0, ds0, p0, q0, hargs, rfl, rfl, h0, r0⟩ := trodAll_cons hA
  obtain ⟨rfl, rfl, rfl⟩ := trodAll_nil r0
  obtain rfl : args = #[v0] := by cases args; simp_all
  obtain ⟨rfl, rfl⟩ := trodVars_none hV
  obtain ⟨a0, hv0⟩ := open_bytes (hval 0 32 v0 rfl rfl) h0
  refine (walk W v0 a0 hv0).mono fun e W' ⟨he, hg⟩ => ?_
  subst he
  exact ⟨_, rfl, law_post (tb := 4) (by kernel_rfl) (by kernel_rfl) hW' hg rfl Try.underlying4 rfl rfl rfl rfl⟩

theorem over : Rows.fnUnderRow.holds Try.pinned (OpenSpec.ofChange Rows.fnUnderSpec) :=
  OpenClaim.holds_of_wide 12 Try.f12 rfl rfl rfl rfl rfl rfl rfl ⟨rfl, rfl, rfl, rfl, rfl⟩ rfl rfl rfl rfl rfl (by kernel_rfl) Try.func12 (by kernel_rfl)
    (of_decide_eq_true (by kernel_rfl)) (by unfold Func.isWrapper; first | (rw [if_pos (by decide +kernel)]; kernel_rfl) | (rw [if_neg (by decide +kernel)]; exact ⟨rfl, rfl⟩))
    (fun os started H enc _ => lifted os started H enc)

/-- The statement. -/
theorem proved : Rows.FnUnderSaid :=
  over
#print axioms proved
end Go.Proofs.Ytpenhmglegmclaa.fnUnder
