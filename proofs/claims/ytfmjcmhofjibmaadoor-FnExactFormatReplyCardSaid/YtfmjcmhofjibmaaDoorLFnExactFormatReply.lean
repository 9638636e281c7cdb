/- FnExactFormatReply: for every input the law returns true, and its arguments read afterwards as they read before. No condition besides those of the statement itself. -/
import Derived.Test.YtfmjcmhofjibmaaDoorLawV
import Derived.Test.YtfmjcmhofjibmaaDoorCards
import Derived.Test.YtfmjcmhofjibmaaDoorTie
import Derived.LaidMore
import Derived.SevenTiedAt
import Derived.Stop.Joined
import Derived.Test.YtfmjcmhofjibmaaDoorAbV
import Derived.Test.YtfmjcmhofjibmaaDoorLaidR
import Derived.Test.YtfmjcmhofjibmaaDoorLibV
import Derived.Test.YtfmjcmhofjibmaaDoorReplyText
import Derived.Test.YtfmjcmhofjibmaaDoorOpenReply
import Derived.ShutString
namespace Go.Proofs.YtfmjcmhofjibmaaDoor.fnExactFormatReply
open Go.ChangeShapes Go.WideShapes Go.ChangeAt Go.RowKit
set_option maxRecDepth 100000
open Go.ChangeMaps (open_string shut_string)
set_option linter.unusedVariables false

theorem own : ownKnob Tryd.prog.godebug = none := by kernel_rfl

set_option maxHeartbeats 1000000 in
/-- The walk: the Go text returns true. -/
theorem walk (w : World) (hV : AbVars w) (hT : Pow10 w) (v0 : Value) (a0 : Pu.ReplyD) (hv0 : IsReplyV v0 a0) :
    Calls Tryd.prog 5 #[v0] w fun e w' => e = .returned (.bool true) ∧ Below w.heap.size w w' := by
  obtain ⟨wf0, rfl⟩ := hv0
  have hlt := hT.lt
  have hltv := hV.lt
  have HT := hide hT
  have HV := hide hV
  have WF := hide wf0
  clear wf0 hT hV
  unfold replyV
  go_enter Tryd.func5, Tryd.ntmps5
  obtain ⟨w0, hw0⟩ : ∃ w0, Hid (w.alloc (.cells #[.int .i64 a0.code, .int .i64 a0.value, .string a0.text, .int .i64 a0.want, .int .i64 a0.had] 32 : Obj) = w0) := ⟨_, rfl⟩
  have b0 : Below w.heap.size w w0 := by rw [← hw0.out]; exact below_alloc (Below.refl _ _) _
  have bx : ∀ W : World, Below w0.heap.size w0 W → W.heap[w.heap.size]? = some (.cells #[.int .i64 a0.code, .int .i64 a0.value, .string a0.text, .int .i64 a0.want, .int .i64 a0.had] 32 : Obj) := fun W h => (h.block w.heap.size (by rw [← hw0.out]; simp)).trans (by rw [← hw0.out]; exact heap_new rfl)
  have BX := hide bx
  clear bx
  go_wp2_with fail
  rw [hw0.out]
  refine (szReply_c a0 _ WF.out).mono ?_; rintro e W1 ⟨he, b1⟩
  obtain ⟨_, _, _, _, _, _⟩ := five_of (BX.out _ b1)
  rcases he with rfl | ⟨n, hn, htx, rfl⟩
  · go_wp2
    go_ret
    exact ⟨rfl, below_then b0 b1⟩
  · go_wp2_with fail
    refine (toReply_c a0 _).mono ?_; rintro e W2 ⟨rfl, b2⟩
    have c2 := below_then b1 b2
    go_wp2_with fail
    refine (sFormatReply_c a0 _ WF.out htx).mono ?_; rintro e W3 ⟨rfl, b3⟩
    have c3 := below_then c2 b3
    obtain ⟨_, _, _, _, _, _⟩ := five_of (BX.out _ c3)
    go_wp2_with fail
    refine (toReply_c a0 _).mono ?_; rintro e W4 ⟨rfl, b4⟩
    have c4 := below_then c3 b4
    go_wp2_with fail
    refine (iFormatReply_c a0 _ (HT.out.below (below_then b0 c4) hlt) (HV.out.below (below_then b0 c4) hltv) WF.out htx).mono ?_; rintro e W5 ⟨rfl, b5⟩
    go_wp2
    go_ret
    exact ⟨rfl, below_then b0 (below_then c4 b5)⟩

/-- The heap that the door leaves meets the condition. -/
theorem door_met (os : Os) (args : Array Value) : laidMetH Tryd.prog Rows.fnExactFormatReplyRow.laid ((World.doorLaid Tryd.prog 67 os).forCall (fun _ _ => 0) ⟨#[], args, []⟩).memory :=
  laidMetH_of_parts3 (fuel := 8) (laidMet_of_run' 8 (by kernel_rfl) (by kernel_rfl)) (by kernel_rfl) (by kernel_rfl)

set_option maxRecDepth 100000 in
theorem lifted (os : Os) (started : os.Started) (H : Type) (enc : TypeId × Value → H) :
    ReturnsInHanded {} Tryd.checked os 5 .any (fun w args => (Rows.fnExactFormatReplySpec.pre enc Tryd.prog Tryd.f5 [] false w args ∧ laidMetH Tryd.prog Rows.fnExactFormatReplyRow.laid w) ∧ sizedMet enc Tryd.prog Tryd.f5 (OpenSpec.ofChange Rows.fnExactFormatReplySpec) false w args) (Rows.fnExactFormatReplySpec.post enc Tryd.prog Tryd.f5 false true false false) := by
  refine wrapV (C := Tryd.checked) (X := fun w _ => laidMetH Tryd.prog Rows.fnExactFormatReplyRow.laid w) (fun _ _ _ hh h => h.of_heap hh) own started (by kernel_rfl) Tryd.func5
    (ChangeSpec.witness_shaped (enc := enc) (C := Tryd.checked) (os := os) (X := fun w _ => laidMetH Tryd.prog Rows.fnExactFormatReplyRow.laid w) false (World.doorLaid Tryd.prog 67 os) #[.agg #[.int .i64 0, .int .i64 0, .string ByteArray.empty, .int .i64 0, .int .i64 0]] 8 rfl (World.shaped_of_RefB (by kernel_rfl) (by kernel_rfl)) (by kernel_rfl) (by kernel_rfl) (by kernel_rfl) (door_met os _)) ?_
  intro W base args ds gs before hval0 hW hL hS
  have hval : ∀ (j : Nat) t v, Tryd.f5.params[j]? = some t → args[j]? = some v → Value.okWide Tryd.prog W .any base t v := hval0
  have hW' := hW
  obtain ⟨p, q, hA0, hV, rfl, hfz, hnd⟩ := hW
  have hA : DataW.TrodAll enc Tryd.prog W 0 (fun _ => true) true Tryd.f5.params.toList args.toList ds p := hA0
  rw [Tryd.params5] at hA hval
  obtain ⟨v0, vs0, d0, ds0, p0, q0, hargs, rfl, rfl, h0, r0⟩ := trodAll_cons hA
  obtain ⟨rfl, rfl, rfl⟩ := trodAll_nil r0
  obtain rfl : args = #[v0] := by cases args; simp_all
  obtain ⟨_, _, _, _, _, _, rfl, _⟩ := trodVars_one hV
  obtain ⟨a0, hv0⟩ := open_reply (hval 0 32 v0 rfl rfl) h0
  refine (walk W (ab_of_reads (met_reads hL (by kernel_rfl) (.tail _ (.tail _ (.tail _ (.head _)))))) (pow10_of (met_reads hL (by kernel_rfl) (.tail _ (.tail _ (.head _))))) v0 a0 hv0).mono fun e W' ⟨he, hg⟩ => ?_
  subst he
  exact ⟨_, rfl, law_postV (tb := 4) (by kernel_rfl) (by kernel_rfl) (by kernel_rfl) hW' hg rfl Tryd.underlying4 rfl rfl rfl⟩

theorem over : Rows.FnExactFormatReplySaid :=
  OpenClaim.holds_of_wide 5 Tryd.f5 rfl rfl rfl rfl rfl rfl rfl ⟨rfl, rfl, rfl, rfl, rfl⟩ rfl rfl rfl rfl rfl (by kernel_rfl) Tryd.func5 (by kernel_rfl)
    (of_decide_eq_true (by kernel_rfl)) (by unfold Func.isWrapper; first | (rw [if_pos (by decide +kernel)]; kernel_rfl) | (rw [if_neg (by decide +kernel)]; exact ⟨rfl, rfl⟩))
    (fun os started H enc _ => lifted os started H enc)

/-- The statement: the tied card. -/
theorem proved : Rows.FnExactFormatReplyCardSaid :=
  Claim7.holds_tied_plain_at .later [] [.data, .data, .data, .data] true (true, "2eef0de22bfc974571e8865883a0fd6c84b41d58485be21194b501425f3fe2bf") true over (fun _ h => by cases h) (by kernel_rfl) (fun _ h => by cases h) fnExactFormatReply_row_tie rfl ⟨rfl, rfl⟩ (by kernel_rfl) rfl
    (fun f fn hf hfn => by
      obtain rfl : 5 = f := Option.some.inj ((show Tryd.prog.funcNamed Rows.fnExactFormatReplyRow.func = some 5 by kernel_rfl).symm.trans hf)
      obtain rfl : Tryd.f5 = fn := Option.some.inj (Tryd.func5.symm.trans hfn)
      exact ⟨by kernel_rfl, fun j t ht => by
        rw [Tryd.params5] at ht
        have hm : t ∈ [32] := by simpa using Array.mem_of_getElem? ht
        have hall : ([32].all fun u => !Tryd.prog.wantsStandIn u) = true := by kernel_rfl
        exact (show Tryd.prog.wantsStandIn t = false by simpa using List.all_eq_true.1 hall t hm)⟩)
    (by kernel_rfl)
#print axioms proved
end Go.Proofs.YtfmjcmhofjibmaaDoor.fnExactFormatReply
