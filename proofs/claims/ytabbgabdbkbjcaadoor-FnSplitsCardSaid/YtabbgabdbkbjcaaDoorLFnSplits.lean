/- FnSplits: for every input the law returns true, and its arguments read afterwards as they read before. No condition besides those of the statement itself. -/
import Derived.Test.YtabbgabdbkbjcaaDoorLawV
import Derived.Test.YtabbgabdbkbjcaaDoorCards
import Derived.Test.YtabbgabdbkbjcaaDoorTie
import Derived.LaidMore
import Derived.SevenTiedAt
import Derived.Stop.Joined
import Derived.Lay
import Derived.Test.YtabbgabdbkbjcaaDoorLaidR
import Derived.Test.YtabbgabdbkbjcaaDoorLibV
import Derived.Test.YtabbgabdbkbjcaaDoorDrawSplit
import Derived.Test.YtabbgabdbkbjcaaDoorSplit
import Derived.Test.YtabbgabdbkbjcaaDoorSplitsPure
import Derived.Test.YtabbgabdbkbjcaaDoorAsc
import Derived.Test.YtabbgabdbkbjcaaDoorTexts
import Derived.Test.YtabbgabdbkbjcaaDoorHasText
import Derived.Test.YtabbgabdbkbjcaaDoorOpen
import Derived.ShutString
namespace Go.Proofs.YtabbgabdbkbjcaaDoor.fnSplits
open Go.ChangeShapes Go.WideShapes Go.ChangeAt Go.RowKit
set_option maxRecDepth 100000
open Go.ChangeMaps (open_string shut_string)
set_option linter.unusedVariables false

theorem own : ownKnob Tryd.prog.godebug = none := by kernel_rfl

set_option maxHeartbeats 2000000 in
/-- The walk: the Go text returns true. -/
theorem walk (w : World) (hM : MaxC w) (v0 : Value) (a0 : List UInt8) (hv0 : RdL w 1 byteEn v0 a0) :
    Calls Tryd.prog 4 #[v0] w fun e w' => e = .returned (.bool true) ∧ Below w.heap.size w w' := by
  have hlt := hM.lt
  have HM := hide hM
  have H0 := hide hv0
  clear hv0 hM
  rcases hbig : decide (4096 < a0.length) with _ | _
  · have hl : a0.length ≤ 4096 := by simpa using hbig
    go_enter Tryd.func4, Tryd.ntmps4
    go_wp2_with fail
    refine (big_c _ _ _ H0.out).mono ?_; rintro e w' ⟨rfl, rfl⟩
    go_wp2_with fail
    refine (drawSplitAt_c _ _ _ H0.out hl).mono ?_; rintro e w1 ⟨s, sep, rfl, hs, hsep, b1⟩
    have HJ := hide (Pu.join_split sep _ s (Nat.le_refl _))
    have hml := Pu.splitA_le sep s
    have htl := Pu.splitA_tot sep _ s (Nat.le_refl _)
    go_wp2_with fail
    refine (iSplitAt_c _ _ _ (HM.out.below b1 hlt) (by omega)).mono ?_; rintro e w2 ⟨v2, rfl, o2, b2⟩
    have c2 := below_then b1 b2
    go_wp2_with fail
    refine (iJoinWith_c _ _ _ _ (o2.rd (fun _ => rfl)) (by omega) (by omega) (by omega)).mono ?_; rintro e w3 ⟨rfl, b3⟩
    have c3 := below_then c2 b3
    rw [HJ.out]
    clear hml htl
    have hss : (s.toList == s.toList) = true := by simp
    go_wp2_with fail
    refine (drawAscending_c _ _ _ (RdL.below H0.out c3 (Nat.le_refl _)) hl).mono ?_; rintro e w4 ⟨u, m, rfl, hm6, o4, b4⟩
    have c4 := below_then c3 b4
    have r4 : RdStr w4 u m := o4.rd (fun _ => rfl)
    go_wp2_with fail
    refine (iAscending_c _ _ _ r4 (by omega)).mono ?_; rintro e w5 ⟨x, rfl, o5, b5⟩
    have c5 := below_then c4 b5
    have hal := Pu.asc_len m
    have r5 : RdStr w5 x (Pu.asc m) := o5.rd (fun _ => rfl)
    have R4 := hide (show RdStr w5 u m from RdL.below r4 b5 (Nat.le_refl _))
    have R5 := hide r5
    obtain ⟨A5, k5, rfl, hlc5, hcm5, hA5⟩ := r5.open_
    have HA5 := hide hA5
    have C5 := hide c5
    obtain ⟨A4, k4, rfl, hlc4, hcm4, hA4⟩ := R4.out.open_
    have HA4 := hide hA4
    clear hA4
    clear o4 b4 c4 r4 o5 b5 c5 hA5 c3 b3 c2 b2 b1 o2 r5
    go_wp2_with fail
    go_loopw [7] (fun i wr => ∃ k : Nat, k ≤ (Pu.asc m).length ∧ i = .int .i64 k ∧ Below w5.heap.size w5 wr) (fun i _ => (Pu.asc m).length - (intOf i).toNat)
    case atStart => exact ⟨0, by omega, rfl, Below.refl _ _⟩
    case round =>
      obtain ⟨k, hk, rfl, hb⟩ := hrel
      by_cases hlt : k < (Pu.asc m).length
      · obtain ⟨g, o, rfl, hg, HC⟩ := HA5.out.at_ (by omega)
        obtain ⟨y, HY, h0⟩ := str_get HC hb hlt
        have HI := hide (Pu.asc_in HY.out)
        have hgr : g < wr.heap.size := Nat.lt_of_lt_of_le hg hb.size
        have HB := hide hb
        have K0 : Below wr.heap.size wr wr := Below.refl _ _
        by_cases hk0 : 0 < k
        · have hk1 : k - 1 < (Pu.asc m).length := by omega
          obtain ⟨z, HZ, h2⟩ := str_get HC hb hk1
          have hq : Op.bytesLess z.toList y.toList = true := Pu.asc_less (by omega) HZ.out HY.out
          have e2 : 0 ≤ (k : Int) - 1 := by omega
          have e2' : 1 ≤ (k : Int) := by omega
          have e3 : (k : Int) - 1 < ((Pu.asc m).length : Int) := by omega
          have e1 : IntKind.i64.wrap ((k : Int) - 1) = (k : Int) - 1 := IntWalk.i64_in _ (by omega)
          have e4 : ((k : Int) - 1).toNat = k - 1 := by omega
          have hkp : (0 : Int) < (k : Int) := by omega
          clear hb
          go_wp2_with fail
          go_region_held3 (fun w' => w'.cell? ⟨g, o + k, none⟩ = some (.string y) ∧ w'.cell? ⟨g, o + (k - 1), none⟩ = some (.string z)) (go_keep)
            (first
              | (go_at_call 17;
                  refine (has_c _ _ _ _ (RdL.below R4.out (HB.out.trans ((by first | exact K0 | exact K0.drew : Below wr.heap.size wr _).mono HB.out.size)) (Nat.le_refl _))).mono ?_;
                  rintro e WX ⟨rfl, bX⟩;
                  rw [HI.out];
                  have KWX : Below wr.heap.size wr WX := below_then (by first | exact K0 | exact K0.drew) bX;
                  have KX : ∀ j : Nat, WX.cell? ⟨g, j, none⟩ = _ := fun j => KWX.cell hgr))
          go_wp2
          go_roundw
          case rel => exact ⟨k + 1, by omega, by go_num, below_then HB.out KWX⟩
          case measure => simp [intOf]; omega
        · obtain rfl : k = 0 := by omega
          have h0' : wr.cell? ⟨g, o, none⟩ = some (.string y) := by simpa using h0
          clear h0 hb
          go_wp2_with fail
          go_quiet ((go_at_call 17; exact quiet_same (has_q _ _ _ _ (RdL.below R4.out (HB.out.trans ((below_drewN K0 _).mono HB.out.size)) (Nat.le_refl _)) HI.out)))
          go_wp2
          go_roundw
          case rel => exact ⟨1, by omega, by go_num, HB.out.trans ((below_drewN K0 _).mono HB.out.size)⟩
          case measure => simp [intOf]; omega
      · have C6 := hide (C5.out.trans (hb.mono C5.out.size))
        have R46 := hide (RdL.below R4.out hb (Nat.le_refl _))
        have R56 := hide (RdL.below R5.out hb (Nat.le_refl _))
        have HB6 := hide hb
        clear hb
        go_wp2_with fail
        go_loopw [8] (fun i wq => ∃ k : Nat, k ≤ m.length ∧ i = .int .i64 k ∧ Below w5.heap.size w5 wq) (fun i _ => m.length - (intOf i).toNat)
        case atStart => exact ⟨0, by omega, rfl, HB6.out⟩
        case round =>
          obtain ⟨k, hk, rfl, hb⟩ := hrel
          by_cases hlt : k < m.length
          · obtain ⟨g, o, rfl, hg, HC⟩ := HA4.out.at_ (by omega)
            obtain ⟨y, HY, h0⟩ := str_get HC hb hlt
            have HI := hide (Pu.in_asc HY.out)
            go_wp2_with (go_at_call 17; refine (has_c _ _ _ _ (RdL.below R5.out hb (Nat.le_refl _))).mono ?_; rintro e WX ⟨rfl, bX⟩; rw [HI.out])
            go_roundw
            case rel => exact ⟨k + 1, by omega, by go_num, below_then hb bX⟩
            case measure => simp [intOf]; omega
          · have HAA := hide (Pu.asc_asc m)
            have hr5 : RdStr _ _ (Pu.asc m) := RdL.below R5.out hb (Nat.le_refl _)
            go_wp2_with fail
            refine (iAscending_c _ _ _ hr5 (by omega)).mono ?_; rintro e W7 ⟨v7, rfl, o7, b7⟩
            rw [HAA.out] at o7
            have r7 : RdStr W7 v7 (Pu.asc m) := o7.rd (fun _ => rfl)
            go_wp2_with fail
            refine (texts_c _ _ _ _ r7 (RdL.below hr5 b7 (Nat.le_refl _))).mono ?_; rintro e W8 ⟨rfl, b8⟩
            go_wp2
            go_ret
            exact ⟨rfl, below_then (below_then (C5.out.trans (hb.mono C5.out.size)) b7) b8⟩
  · go_enter Tryd.func4, Tryd.ntmps4
    go_wp2_with fail
    refine (big_c _ _ _ H0.out).mono ?_; rintro e w' ⟨rfl, rfl⟩
    go_wp2
    go_ret
    exact ⟨rfl, Below.refl _ _⟩

/-- The laid heap meets the condition. -/
theorem door_met (os : Os) (args : Array Value) : laidMetH Tryd.prog Rows.fnSplitsRow.laid ((World.laidAll Tryd.prog os Rows.fnSplitsRow.laid).forCall (fun _ _ => 0) ⟨#[], args, []⟩).memory := by
  rw [MakeChecks.laidMetH_plain _ _ _ (by kernel_rfl)]
  exact laidMet_laidAll _ (by kernel_rfl) (by kernel_rfl)

set_option maxRecDepth 100000 in
theorem lifted (os : Os) (started : os.Started) (H : Type) (enc : TypeId × Value → H) :
    ReturnsInHanded {} Tryd.checked os 4 .any (fun w args => (Rows.fnSplitsSpec.pre enc Tryd.prog Tryd.f4 [] false w args ∧ laidMetH Tryd.prog Rows.fnSplitsRow.laid w) ∧ sizedMet enc Tryd.prog Tryd.f4 (OpenSpec.ofChange Rows.fnSplitsSpec) false w args) (Rows.fnSplitsSpec.post enc Tryd.prog Tryd.f4 false true false false) := by
  refine wrapV (C := Tryd.checked) (X := fun w _ => laidMetH Tryd.prog Rows.fnSplitsRow.laid w) (fun _ _ _ hh h => h.of_heap hh) own started (by kernel_rfl) Tryd.func4
    (ChangeSpec.witness_shaped (enc := enc) (C := Tryd.checked) (os := os) (X := fun w _ => laidMetH Tryd.prog Rows.fnSplitsRow.laid w) false (World.laidAll Tryd.prog os Rows.fnSplitsRow.laid) #[.slice none 0 0] 8 (World.laidAll_os _ _ _) (World.shaped_of_ZipB (by kernel_rfl) (by kernel_rfl)) (by kernel_rfl) (by kernel_rfl) (by kernel_rfl) (door_met os _)) ?_
  intro W base args ds gs before hval0 hW hL hS
  have hval : ∀ (j : Nat) t v, Tryd.f4.params[j]? = some t → args[j]? = some v → Value.okWide Tryd.prog W .any base t v := hval0
  have hW' := hW
  obtain ⟨p, q, hA0, hV, rfl, hfz, hnd⟩ := hW
  have hA : DataW.TrodAll enc Tryd.prog W 0 (fun _ => true) true Tryd.f4.params.toList args.toList ds p := hA0
  rw [Tryd.params4] at hA hval
  obtain ⟨v0, vs0, d0, ds0, p0, q0, hargs, rfl, rfl, h0, r0⟩ := trodAll_cons hA
  obtain ⟨rfl, rfl, rfl⟩ := trodAll_nil r0
  obtain rfl : args = #[v0] := by cases args; simp_all
  obtain ⟨rfl, rfl⟩ := trodVars_none hV
  obtain ⟨a0, hv0⟩ := open_bytes (hval 0 27 v0 rfl rfl) h0
  refine (walk W (maxc_of hS) v0 a0 hv0).mono fun e W' ⟨he, hg⟩ => ?_
  subst he
  exact ⟨_, rfl, law_postV (tb := 4) (by kernel_rfl) (by kernel_rfl) (by kernel_rfl) hW' hg rfl Tryd.underlying4 rfl rfl rfl⟩

theorem over : Rows.FnSplitsSaid :=
  OpenClaim.holds_of_wide 4 Tryd.f4 rfl rfl rfl rfl rfl rfl rfl ⟨rfl, rfl, rfl, rfl, rfl⟩ rfl rfl rfl rfl rfl (by kernel_rfl) Tryd.func4 (by kernel_rfl)
    (of_decide_eq_true (by kernel_rfl)) (by unfold Func.isWrapper; first | (rw [if_pos (by decide +kernel)]; kernel_rfl) | (rw [if_neg (by decide +kernel)]; exact ⟨rfl, rfl⟩))
    (fun os started H enc _ => lifted os started H enc)

/-- The statement: the tied card. -/
theorem proved : Rows.FnSplitsCardSaid :=
  Claim7.holds_tied_plain_at .later [] [.data, .pinned] true (true, "cd703c012e5456b0e2c4be6653215308e6b561ea59fb1b562905c5074e047c31") true over (fun _ h => by cases h) (by kernel_rfl) (fun _ h => by cases h) fnSplits_row_tie rfl ⟨rfl, rfl⟩ (by kernel_rfl) rfl
    (fun f fn hf hfn => by
      obtain rfl : 4 = f := Option.some.inj ((show Tryd.prog.funcNamed Rows.fnSplitsRow.func = some 4 by kernel_rfl).symm.trans hf)
      obtain rfl : Tryd.f4 = fn := Option.some.inj (Tryd.func4.symm.trans hfn)
      exact ⟨by kernel_rfl, fun j t ht => by
        rw [Tryd.params4] at ht
        have hm : t ∈ [27] := by simpa using Array.mem_of_getElem? ht
        have hall : ([27].all fun u => !Tryd.prog.wantsStandIn u) = true := by kernel_rfl
        exact (show Tryd.prog.wantsStandIn t = false by simpa using List.all_eq_true.1 hall t hm)⟩)
    (by kernel_rfl)
#print axioms proved
end Go.Proofs.YtabbgabdbkbjcaaDoor.fnSplits
