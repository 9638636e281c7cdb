/- FnExactFormatCall: for every input the law returns true, and its arguments read afterwards as they read before. No condition besides those of the statement itself. -/
import Derived.Test.YtfmjcmhofjibmaaDoorLawV
import Derived.Test.YtfmjcmhofjibmaaDoorCards
import Derived.Test.YtfmjcmhofjibmaaDoorTie
import Derived.LaidMore
import Derived.SevenTiedAt
import Derived.Stop.Joined
import Derived.Test.YtfmjcmhofjibmaaDoorLaidR
import Derived.Test.YtfmjcmhofjibmaaDoorLibV
import Derived.Test.YtfmjcmhofjibmaaDoorCallText
import Derived.Test.YtfmjcmhofjibmaaDoorOpenCall
import Derived.ShutString
namespace Go.Proofs.YtfmjcmhofjibmaaDoor.fnExactFormatCall
open Go.ChangeShapes Go.WideShapes Go.ChangeAt Go.RowKit
set_option maxRecDepth 100000
open Go.ChangeMaps (open_string shut_string)
set_option linter.unusedVariables false

theorem own : ownKnob Tryd.prog.godebug = none := by kernel_rfl

set_option maxHeartbeats 1000000 in
/-- The walk: the Go text returns true. -/
theorem walk (w : World) (hT : Pow10 w) (v0 : Value) (a0 : Pu.CallD) (hv0 : IsCallV v0 a0) :
    Calls Tryd.prog 4 #[v0] w fun e w' => e = .returned (.bool true) ∧ Below w.heap.size w w' := by
  obtain ⟨wf0, rfl⟩ := hv0
  have hlt := hT.lt
  have HT := hide hT
  have WF := hide wf0
  clear wf0 hT
  unfold callV
  go_enter Tryd.func4, Tryd.ntmps4
  obtain ⟨w0, hw0⟩ : ∃ w0, Hid (w.alloc (.cells #[.string a0.method, .string a0.key, .int .i64 a0.value, .string a0.text] 25 : Obj) = w0) := ⟨_, rfl⟩
  have b0 : Below w.heap.size w w0 := by rw [← hw0.out]; exact below_alloc (Below.refl _ _) _
  have bx : ∀ W : World, Below w0.heap.size w0 W → W.heap[w.heap.size]? = some (.cells #[.string a0.method, .string a0.key, .int .i64 a0.value, .string a0.text] 25 : Obj) := fun W h => (h.block w.heap.size (by rw [← hw0.out]; simp)).trans (by rw [← hw0.out]; exact heap_new rfl)
  have BX := hide bx
  clear bx
  go_wp2_with fail
  rw [hw0.out]
  refine (szCall2_c a0 _ WF.out).mono ?_; rintro e W1 ⟨he, b1⟩
  obtain ⟨_, _, _, _, _⟩ := four_cells (BX.out _ b1)
  rcases he with rfl | ⟨n, hn, htx, rfl⟩
  · go_wp2
    go_ret
    exact ⟨rfl, below_then b0 b1⟩
  · go_wp2_with fail
    refine (toCall_c a0 _).mono ?_; rintro e W2 ⟨rfl, b2⟩
    have c2 := below_then b1 b2
    go_wp2_with fail
    refine (sFormatCall_c a0 _ WF.out htx).mono ?_; rintro e W3 ⟨rfl, b3⟩
    have c3 := below_then c2 b3
    obtain ⟨_, _, _, _, _⟩ := four_cells (BX.out _ c3)
    go_wp2_with fail
    refine (toCall_c a0 _).mono ?_; rintro e W4 ⟨rfl, b4⟩
    have c4 := below_then c3 b4
    go_wp2_with fail
    refine (iFormatCall_c a0 _ (HT.out.below (below_then b0 c4) hlt) WF.out htx).mono ?_; rintro e W5 ⟨rfl, b5⟩
    go_wp2
    go_ret
    exact ⟨rfl, below_then b0 (below_then c4 b5)⟩

/-- The heap that the door leaves meets the condition. -/
theorem door_met (os : Os) (args : Array Value) : laidMetH Tryd.prog Rows.fnExactFormatCallRow.laid ((World.doorLaid Tryd.prog 67 os).forCall (fun _ _ => 0) ⟨#[], args, []⟩).memory :=
  laidMetH_of_parts3 (fuel := 8) (laidMet_of_run' 8 (by kernel_rfl) (by kernel_rfl)) (by kernel_rfl) (by kernel_rfl)

set_option maxRecDepth 100000 in
theorem lifted (os : Os) (started : os.Started) (H : Type) (enc : TypeId × Value → H) :
    ReturnsInHanded {} Tryd.checked os 4 .any (fun w args => (Rows.fnExactFormatCallSpec.pre enc Tryd.prog Tryd.f4 [] false w args ∧ laidMetH Tryd.prog Rows.fnExactFormatCallRow.laid w) ∧ sizedMet enc Tryd.prog Tryd.f4 (OpenSpec.ofChange Rows.fnExactFormatCallSpec) false w args) (Rows.fnExactFormatCallSpec.post enc Tryd.prog Tryd.f4 false true false false) := by
  refine wrapV (C := Tryd.checked) (X := fun w _ => laidMetH Tryd.prog Rows.fnExactFormatCallRow.laid w) (fun _ _ _ hh h => h.of_heap hh) own started (by kernel_rfl) Tryd.func4
    (ChangeSpec.witness_shaped (enc := enc) (C := Tryd.checked) (os := os) (X := fun w _ => laidMetH Tryd.prog Rows.fnExactFormatCallRow.laid w) false (World.doorLaid Tryd.prog 67 os) #[.agg #[.string ByteArray.empty, .string ByteArray.empty, .int .i64 0, .string ByteArray.empty]] 8 rfl (World.shaped_of_RefB (by kernel_rfl) (by kernel_rfl)) (by kernel_rfl) (by kernel_rfl) (by kernel_rfl) (door_met os _)) ?_
  intro W base args ds gs before hval0 hW hL hS
  have hval : ∀ (j : Nat) t v, Tryd.f4.params[j]? = some t → args[j]? = some v → Value.okWide Tryd.prog W .any base t v := hval0
  have hW' := hW
  obtain ⟨p, q, hA0, hV, rfl, hfz, hnd⟩ := hW
  have hA : DataW.TrodAll enc Tryd.prog W 0 (fun _ => true) true Tryd.f4.params.toList args.toList ds p := hA0
  rw [Tryd.params4] at hA hval
  obtain ⟨v0, vs0, d0, ds0, p0, q0, hargs, rfl, rfl, h0, r0⟩ := trodAll_cons hA
  obtain ⟨rfl, rfl, rfl⟩ := trodAll_nil r0
  obtain rfl : args = #[v0] := by cases args; simp_all
  obtain ⟨rfl, rfl⟩ := trodVars_none hV
  obtain ⟨a0, hv0⟩ := open_call (hval 0 25 v0 rfl rfl) h0
  refine (walk W (pow10_of (met_reads hL (by kernel_rfl) (.tail _ (.tail _ (.head _))))) v0 a0 hv0).mono fun e W' ⟨he, hg⟩ => ?_
  subst he
  exact ⟨_, rfl, law_postV (tb := 4) (by kernel_rfl) (by kernel_rfl) (by kernel_rfl) hW' hg rfl Tryd.underlying4 rfl rfl rfl⟩

theorem over : Rows.FnExactFormatCallSaid :=
  OpenClaim.holds_of_wide 4 Tryd.f4 rfl rfl rfl rfl rfl rfl rfl ⟨rfl, rfl, rfl, rfl, rfl⟩ rfl rfl rfl rfl rfl (by kernel_rfl) Tryd.func4 (by kernel_rfl)
    (of_decide_eq_true (by kernel_rfl)) (by unfold Func.isWrapper; first | (rw [if_pos (by decide +kernel)]; kernel_rfl) | (rw [if_neg (by decide +kernel)]; exact ⟨rfl, rfl⟩))
    (fun os started H enc _ => lifted os started H enc)

/-- The statement: the tied card. -/
theorem proved : Rows.FnExactFormatCallCardSaid :=
  Claim7.holds_tied_plain_at .later [] [.data, .data, .data] true (true, "2eef0de22bfc974571e8865883a0fd6c84b41d58485be21194b501425f3fe2bf") true over (fun _ h => by cases h) (by kernel_rfl) (fun _ h => by cases h) fnExactFormatCall_row_tie rfl ⟨rfl, rfl⟩ (by kernel_rfl) rfl
    (fun f fn hf hfn => by
      obtain rfl : 4 = f := Option.some.inj ((show Tryd.prog.funcNamed Rows.fnExactFormatCallRow.func = some 4 by kernel_rfl).symm.trans hf)
      obtain rfl : Tryd.f4 = fn := Option.some.inj (Tryd.func4.symm.trans hfn)
      exact ⟨by kernel_rfl, fun j t ht => by
        rw [Tryd.params4] at ht
        have hm : t ∈ [25] := by simpa using Array.mem_of_getElem? ht
        have hall : ([25].all fun u => !Tryd.prog.wantsStandIn u) = true := by kernel_rfl
        exact (show Tryd.prog.wantsStandIn t = false by simpa using List.all_eq_true.1 hall t hm)⟩)
    (by kernel_rfl)
#print axioms proved
end Go.Proofs.YtfmjcmhofjibmaaDoor.fnExactFormatCall
