/- FnNumbers: for every input the law returns true, and its arguments read afterwards as they read before. No condition besides those of the statement itself. -/
import Derived.Test.YtfmjcmhofjibmaaDoorLawV
import Derived.Test.YtfmjcmhofjibmaaDoorCards
import Derived.Test.YtfmjcmhofjibmaaDoorTie
import Derived.LaidMore
import Derived.SevenTiedAt
import Derived.Stop.Joined
import Derived.Test.YtfmjcmhofjibmaaDoorLaidR
import Derived.Test.YtfmjcmhofjibmaaDoorLibV
import Derived.Test.YtfmjcmhofjibmaaDoorDrawNum
import Derived.Test.YtfmjcmhofjibmaaDoorOpen
import Derived.ShutString
namespace Go.Proofs.YtfmjcmhofjibmaaDoor.fnNumbers
open Go.ChangeShapes Go.WideShapes Go.ChangeAt Go.RowKit
set_option maxRecDepth 100000
open Go.ChangeMaps (open_string shut_string)
set_option linter.unusedVariables false

theorem own : ownKnob Tryd.prog.godebug = none := by kernel_rfl

/-- The walk: the Go text returns true. -/
theorem walk (w : World) (hT : Pow10 w) (hE : ErrSyn w) (v0 : Value) (a0 : List UInt8) (hv0 : RdL w 1 byteEn v0 a0) :
    Calls Tryd.prog 8 #[v0] w fun e w' => e = .returned (.bool true) ∧ Below w.heap.size w w' := by
  have hlt := hT.lt
  have hlt2 := hE.lt
  have HT := hide hT
  have HE := hide hE
  have H0 := hide hv0
  clear hv0 hT hE
  rcases hbig : decide (4096 < a0.length) with _ | _
  · have hl : a0.length ≤ 4096 := by simpa using hbig
    go_enter Tryd.func8, Tryd.ntmps8
    go_wp2_with fail
    refine (big_c _ _ _ H0.out).mono ?_; rintro e w' ⟨rfl, rfl⟩
    go_wp2_with fail
    refine (drawFormatNumber_c _ _ _ H0.out hl).mono ?_; rintro e w1 ⟨n, rfl, hw, b1⟩
    have hr := wf_range hw
    clear hw
    go_wp2_with fail
    refine (iFormatNumber_c _ _ (HT.out.below b1 hlt) hr.1 hr.2).mono ?_; rintro e w2 ⟨rfl, b2⟩
    have c2 := below_then b1 b2
    go_wp2_with fail
    refine (iParseNumber_c _ _ (HT.out.below c2 hlt) (HE.out.below c2 hlt2)).mono ?_; rintro e w3 ⟨rfl, b3⟩
    have c3 := below_then c2 b3
    have HP := hide (Pu.pn_of_itoa n)
    have HL : Hid ((Pu.numB n).toList = Lib.itoa n) := by rw [Hid, Pu.numB, Lib.toList_data]
    rw [HL.out, HP.out.1]
    by_cases hn0 : n < 0
    · have HD : Hid ((decide (0 ≤ n) && decide (n ≤ 999)) = false) := by rw [Hid]; simp; omega
      obtain ⟨v, HV⟩ : ∃ v, Hid (Pu.pnV (Lib.itoa n) = v) := ⟨_, rfl⟩
      rw [HD.out, HV.out]
      go_wp2_with fail
      refine (drawParseNumber_c _ _ _ (RdL.below H0.out c3 (Nat.le_refl _)) hl).mono ?_; rintro e w5 ⟨s, rfl, _, b5⟩
      have c5 := below_then c3 b5
      go_wp2_with fail
      refine (iParseNumber_c _ _ (HT.out.below c5 hlt) (HE.out.below c5 hlt2)).mono ?_; rintro e w6 ⟨rfl, b6⟩
      have c6 := below_then c5 b6
      have hbd := Pu.pn_bd s.toList
      rcases hq : Pu.pnB s.toList with _ | _
      · have HZ := hide (Pu.pn_zero hq)
        rw [HZ.out]
        go_wp2
        go_ret
        exact ⟨rfl, c6⟩
      · have hs : ((Pu.numB (Pu.pnV s.toList)).toList == s.toList) = true := by rw [Pu.numB, Lib.toList_data]; simp [Pu.pn_itoa hq]
        go_wp2_with (go_at_call 10; refine (iFormatNumber_c _ _ (HT.out.below c6 hlt) (by omega) (by omega)).mono ?_; rintro e w7 ⟨rfl, b7⟩)
        go_ret
        exact ⟨rfl, below_then c6 b7⟩
    by_cases hn1 : 999 < n
    · have HD : Hid ((decide (0 ≤ n) && decide (n ≤ 999)) = false) := by rw [Hid]; simp; omega
      obtain ⟨v, HV⟩ : ∃ v, Hid (Pu.pnV (Lib.itoa n) = v) := ⟨_, rfl⟩
      rw [HD.out, HV.out]
      go_wp2_with fail
      refine (drawParseNumber_c _ _ _ (RdL.below H0.out c3 (Nat.le_refl _)) hl).mono ?_; rintro e w5 ⟨s, rfl, _, b5⟩
      have c5 := below_then c3 b5
      go_wp2_with fail
      refine (iParseNumber_c _ _ (HT.out.below c5 hlt) (HE.out.below c5 hlt2)).mono ?_; rintro e w6 ⟨rfl, b6⟩
      have c6 := below_then c5 b6
      have hbd := Pu.pn_bd s.toList
      rcases hq : Pu.pnB s.toList with _ | _
      · have HZ := hide (Pu.pn_zero hq)
        rw [HZ.out]
        go_wp2
        go_ret
        exact ⟨rfl, c6⟩
      · have hs : ((Pu.numB (Pu.pnV s.toList)).toList == s.toList) = true := by rw [Pu.numB, Lib.toList_data]; simp [Pu.pn_itoa hq]
        go_wp2_with (go_at_call 10; refine (iFormatNumber_c _ _ (HT.out.below c6 hlt) (by omega) (by omega)).mono ?_; rintro e w7 ⟨rfl, b7⟩)
        go_ret
        exact ⟨rfl, below_then c6 b7⟩
    · have HD : Hid ((decide (0 ≤ n) && decide (n ≤ 999)) = true) := by rw [Hid]; simp; omega
      have HV : Hid (Pu.pnV (Lib.itoa n) = n) := HP.out.2 (by rw [HP.out.1]; exact HD.out)
      rw [HD.out, HV.out]
      go_wp2_with fail
      refine (drawParseNumber_c _ _ _ (RdL.below H0.out c3 (Nat.le_refl _)) hl).mono ?_; rintro e w5 ⟨s, rfl, _, b5⟩
      have c5 := below_then c3 b5
      go_wp2_with fail
      refine (iParseNumber_c _ _ (HT.out.below c5 hlt) (HE.out.below c5 hlt2)).mono ?_; rintro e w6 ⟨rfl, b6⟩
      have c6 := below_then c5 b6
      have hbd := Pu.pn_bd s.toList
      rcases hq : Pu.pnB s.toList with _ | _
      · have HZ := hide (Pu.pn_zero hq)
        rw [HZ.out]
        go_wp2
        go_ret
        exact ⟨rfl, c6⟩
      · have hs : ((Pu.numB (Pu.pnV s.toList)).toList == s.toList) = true := by rw [Pu.numB, Lib.toList_data]; simp [Pu.pn_itoa hq]
        go_wp2_with (go_at_call 10; refine (iFormatNumber_c _ _ (HT.out.below c6 hlt) (by omega) (by omega)).mono ?_; rintro e w7 ⟨rfl, b7⟩)
        go_ret
        exact ⟨rfl, below_then c6 b7⟩
  · go_enter Tryd.func8, Tryd.ntmps8
    go_wp2_with fail
    refine (big_c _ _ _ H0.out).mono ?_; rintro e w' ⟨rfl, rfl⟩
    go_wp2
    go_ret
    exact ⟨rfl, Below.refl _ _⟩

/-- The heap that the door leaves meets the condition. -/
theorem door_met (os : Os) (args : Array Value) : laidMetH Tryd.prog Rows.fnNumbersRow.laid ((World.doorLaid Tryd.prog 67 os).forCall (fun _ _ => 0) ⟨#[], args, []⟩).memory :=
  laidMetH_of_parts3 (fuel := 8) (laidMet_of_run' 8 (by kernel_rfl) (by kernel_rfl)) (by kernel_rfl) (by kernel_rfl)

set_option maxRecDepth 100000 in
theorem lifted (os : Os) (started : os.Started) (H : Type) (enc : TypeId × Value → H) :
    ReturnsInHanded {} Tryd.checked os 8 .any (fun w args => (Rows.fnNumbersSpec.pre enc Tryd.prog Tryd.f8 [] false w args ∧ laidMetH Tryd.prog Rows.fnNumbersRow.laid w) ∧ sizedMet enc Tryd.prog Tryd.f8 (OpenSpec.ofChange Rows.fnNumbersSpec) false w args) (Rows.fnNumbersSpec.post enc Tryd.prog Tryd.f8 false true false false) := by
  refine wrapV (C := Tryd.checked) (X := fun w _ => laidMetH Tryd.prog Rows.fnNumbersRow.laid w) (fun _ _ _ hh h => h.of_heap hh) own started (by kernel_rfl) Tryd.func8
    (ChangeSpec.witness_shaped (enc := enc) (C := Tryd.checked) (os := os) (X := fun w _ => laidMetH Tryd.prog Rows.fnNumbersRow.laid w) false (World.doorLaid Tryd.prog 67 os) #[.slice none 0 0] 8 rfl (World.shaped_of_RefB (by kernel_rfl) (by kernel_rfl)) (by kernel_rfl) (by kernel_rfl) (by kernel_rfl) (door_met os _)) ?_
  intro W base args ds gs before hval0 hW hL hS
  have hval : ∀ (j : Nat) t v, Tryd.f8.params[j]? = some t → args[j]? = some v → Value.okWide Tryd.prog W .any base t v := hval0
  have hW' := hW
  obtain ⟨p, q, hA0, hV, rfl, hfz, hnd⟩ := hW
  have hA : DataW.TrodAll enc Tryd.prog W 0 (fun _ => true) true Tryd.f8.params.toList args.toList ds p := hA0
  rw [Tryd.params8] at hA hval
  obtain ⟨v0, vs0, d0, ds0, p0, q0, hargs, rfl, rfl, h0, r0⟩ := trodAll_cons hA
  obtain ⟨rfl, rfl, rfl⟩ := trodAll_nil r0
  obtain rfl : args = #[v0] := by cases args; simp_all
  obtain ⟨rfl, rfl⟩ := trodVars_none hV
  obtain ⟨a0, hv0⟩ := open_bytes (hval 0 48 v0 rfl rfl) h0
  refine (walk W (pow10_of (met_reads hL (by kernel_rfl) (.tail _ (.tail _ (.head _))))) (errsyn_of (met_reads hL (by kernel_rfl) (.tail _ (.tail _ (.tail _ (.tail _ (.head _))))))) v0 a0 hv0).mono fun e W' ⟨he, hg⟩ => ?_
  subst he
  exact ⟨_, rfl, law_postV (tb := 4) (by kernel_rfl) (by kernel_rfl) (by kernel_rfl) hW' hg rfl Tryd.underlying4 rfl rfl rfl⟩

theorem over : Rows.FnNumbersSaid :=
  OpenClaim.holds_of_wide 8 Tryd.f8 rfl rfl rfl rfl rfl rfl rfl ⟨rfl, rfl, rfl, rfl, rfl⟩ rfl rfl rfl rfl rfl (by kernel_rfl) Tryd.func8 (by kernel_rfl)
    (of_decide_eq_true (by kernel_rfl)) (by unfold Func.isWrapper; first | (rw [if_pos (by decide +kernel)]; kernel_rfl) | (rw [if_neg (by decide +kernel)]; exact ⟨rfl, rfl⟩))
    (fun os started H enc _ => lifted os started H enc)

/-- The statement: the tied card. -/
theorem proved : Rows.FnNumbersCardSaid :=
  Claim7.holds_tied_plain_at .later [] [.data, .data, .data, .sentinel, .sentinel] true (true, "2eef0de22bfc974571e8865883a0fd6c84b41d58485be21194b501425f3fe2bf") true over (fun _ h => by cases h) (by kernel_rfl) (fun _ h => by cases h) fnNumbers_row_tie rfl ⟨rfl, rfl⟩ (by kernel_rfl) rfl
    (fun f fn hf hfn => by
      obtain rfl : 8 = f := Option.some.inj ((show Tryd.prog.funcNamed Rows.fnNumbersRow.func = some 8 by kernel_rfl).symm.trans hf)
      obtain rfl : Tryd.f8 = fn := Option.some.inj (Tryd.func8.symm.trans hfn)
      exact ⟨by kernel_rfl, fun j t ht => by
        rw [Tryd.params8] at ht
        have hm : t ∈ [48] := by simpa using Array.mem_of_getElem? ht
        have hall : ([48].all fun u => !Tryd.prog.wantsStandIn u) = true := by kernel_rfl
        exact (show Tryd.prog.wantsStandIn t = false by simpa using List.all_eq_true.1 hall t hm)⟩)
    (by kernel_rfl)
#print axioms proved
end Go.Proofs.YtfmjcmhofjibmaaDoor.fnNumbers
