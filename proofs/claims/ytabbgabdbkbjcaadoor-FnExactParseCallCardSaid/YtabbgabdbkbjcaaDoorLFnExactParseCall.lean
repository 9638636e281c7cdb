/- FnExactParseCall: for every input the law returns true, and its arguments read afterwards as they read before. No condition besides those of the statement itself. -/
import Derived.Test.YtabbgabdbkbjcaaDoorLawV
import Derived.Test.YtabbgabdbkbjcaaDoorCards
import Derived.Test.YtabbgabdbkbjcaaDoorTie
import Derived.LaidMore
import Derived.SevenTiedAt
import Derived.Stop.Joined
import Derived.Test.YtabbgabdbkbjcaaDoorLaidR
import Derived.Test.YtabbgabdbkbjcaaDoorLibV
import Derived.Test.YtabbgabdbkbjcaaDoorPCall
import Derived.Test.YtabbgabdbkbjcaaDoorEqCall
import Derived.ShutString
namespace Go.Proofs.YtabbgabdbkbjcaaDoor.fnExactParseCall
open Go.ChangeShapes Go.WideShapes Go.ChangeAt Go.RowKit
set_option maxRecDepth 100000
open Go.ChangeMaps (open_string shut_string)
set_option linter.unusedVariables false

theorem own : ownKnob Tryd.prog.godebug = none := by kernel_rfl

/-- The walk: the Go text returns true. -/
theorem walk (w : World) (hT : Pow10 w) (hE : ErrSyn w) (hM : MaxC w) (a0 : ByteArray) (w0 : a0.size ≤ maxLen) :
    Calls Tryd.prog 5 #[.string a0] w fun e w' => e = .returned (.bool true) ∧ Below w.heap.size w w' := by
  have hlM := hM.lt
  have hlT := hT.lt
  have hlE := hE.lt
  have HM := hide hM
  have HT := hide hT
  have HE := hide hE
  clear hM hT hE
  unfold maxLen at w0
  by_cases hs0 : a0.size ≤ 1048576
  · obtain ⟨c, HC⟩ : ∃ c, Hid (Pu.pcallC a0 = c) := ⟨_, rfl⟩
    obtain ⟨q, HQ⟩ : ∃ q, Hid (Pu.pcallB a0 = q) := ⟨_, rfl⟩
    go_enter Tryd.func5, Tryd.ntmps5
    go_wp2_with fail
    refine (sParseCall_c _ _ hs0).mono ?_; rintro e W1 ⟨rfl, b1⟩
    rw [HC.out, HQ.out]
    unfold callV
    have X1 := hide (show (W1.alloc (.cells #[.string c.method, .string c.key, .int .i64 c.value, .string c.text] 36 : Obj)).heap[W1.heap.size]? = some (.cells #[.string c.method, .string c.key, .int .i64 c.value, .string c.text] 36 : Obj) from heap_new rfl)
    have bA : Below W1.heap.size W1 (W1.alloc (.cells #[.string c.method, .string c.key, .int .i64 c.value, .string c.text] 36 : Obj)) := below_alloc (Below.refl _ _) _
    have c1 := below_then b1 bA
    go_wp2_with fail
    refine (iParseCall_c _ _ (HM.out.below c1 hlM) (HT.out.below c1 hlT) (HE.out.below c1 hlE) hs0).mono ?_; rintro e W2 ⟨rfl, b2⟩
    rw [HC.out, HQ.out]
    unfold callV
    have c2 := below_then c1 b2
    obtain ⟨_, _, _, _, _⟩ := four_cells (row_b b2 X1.out)
    have hlt9 : W1.heap.size < W2.heap.size := (Array.getElem?_eq_some_iff.1 (row_b b2 X1.out)).1
    clear b2 bA
    go_wp2_with fail
    refine (eqCall_c c _).mono ?_; rintro e W3 ⟨rfl, b3⟩
    go_wp2
    go_ret
    exact ⟨rfl, below_then (below_alloc c2 _) b3⟩
  · go_enter Tryd.func5, Tryd.ntmps5
    go_wp2
    go_ret
    exact ⟨rfl, Below.refl _ _⟩

/-- The heap that the door leaves meets the condition. -/
theorem door_met (os : Os) (args : Array Value) : laidMetH Tryd.prog Rows.fnExactParseCallRow.laid ((World.doorLaid Tryd.prog 72 os).forCall (fun _ _ => 0) ⟨#[], args, []⟩).memory :=
  laidMetH_of_parts3 (fuel := 8) (laidMet_of_run' 8 (by kernel_rfl) (by kernel_rfl)) (by kernel_rfl) (by kernel_rfl)

set_option maxRecDepth 100000 in
theorem lifted (os : Os) (started : os.Started) (H : Type) (enc : TypeId × Value → H) :
    ReturnsInHanded {} Tryd.checked os 5 .any (fun w args => (Rows.fnExactParseCallSpec.pre enc Tryd.prog Tryd.f5 [] false w args ∧ laidMetH Tryd.prog Rows.fnExactParseCallRow.laid w) ∧ sizedMet enc Tryd.prog Tryd.f5 (OpenSpec.ofChange Rows.fnExactParseCallSpec) false w args) (Rows.fnExactParseCallSpec.post enc Tryd.prog Tryd.f5 false true false false) := by
  refine wrapV (C := Tryd.checked) (X := fun w _ => laidMetH Tryd.prog Rows.fnExactParseCallRow.laid w) (fun _ _ _ hh h => h.of_heap hh) own started (by kernel_rfl) Tryd.func5
    (ChangeSpec.witness_shaped (enc := enc) (C := Tryd.checked) (os := os) (X := fun w _ => laidMetH Tryd.prog Rows.fnExactParseCallRow.laid w) false (World.doorLaid Tryd.prog 72 os) #[.string ByteArray.empty] 8 rfl (World.shaped_of_RefB (by kernel_rfl) (by kernel_rfl)) (by kernel_rfl) (by kernel_rfl) (by kernel_rfl) (door_met os _)) ?_
  intro W base args ds gs before hval0 hW hL hS
  have hval : ∀ (j : Nat) t v, Tryd.f5.params[j]? = some t → args[j]? = some v → Value.okWide Tryd.prog W .any base t v := hval0
  have hW' := hW
  obtain ⟨p, q, hA0, hV, rfl, hfz, hnd⟩ := hW
  have hA : DataW.TrodAll enc Tryd.prog W 0 (fun _ => true) true Tryd.f5.params.toList args.toList ds p := hA0
  rw [Tryd.params5] at hA hval
  obtain ⟨v0, vs0, d0, ds0, p0, q0, hargs, rfl, rfl, h0, r0⟩ := trodAll_cons hA
  obtain ⟨rfl, rfl, rfl⟩ := trodAll_nil r0
  obtain rfl : args = #[v0] := by cases args; simp_all
  obtain ⟨rfl, rfl⟩ := trodVars_none hV
  obtain ⟨a0, rfl, rfl, rfl, w0⟩ := open_string Tryd.underlying9 (hval 0 9 v0 rfl rfl) h0
  refine (walk W (pow10_of (met_reads hL (by kernel_rfl) (.tail _ (.tail _ (.head _))))) (errsyn_of (met_reads hL (by kernel_rfl) (.tail _ (.tail _ (.tail _ (.tail _ (.head _))))))) (maxc_of hS) a0 w0).mono fun e W' ⟨he, hg⟩ => ?_
  subst he
  exact ⟨_, rfl, law_postV (tb := 4) (by kernel_rfl) (by kernel_rfl) (by kernel_rfl) hW' hg rfl Tryd.underlying4 rfl rfl rfl⟩

theorem over : Rows.FnExactParseCallSaid :=
  OpenClaim.holds_of_wide 5 Tryd.f5 rfl rfl rfl rfl rfl rfl rfl ⟨rfl, rfl, rfl, rfl, rfl⟩ rfl rfl rfl rfl rfl (by kernel_rfl) Tryd.func5 (by kernel_rfl)
    (of_decide_eq_true (by kernel_rfl)) (by unfold Func.isWrapper; first | (rw [if_pos (by decide +kernel)]; kernel_rfl) | (rw [if_neg (by decide +kernel)]; exact ⟨rfl, rfl⟩))
    (fun os started H enc _ => lifted os started H enc)

/-- The statement: the tied card. -/
theorem proved : Rows.FnExactParseCallCardSaid :=
  Claim7.holds_tied_plain_at .later [] [.data, .data, .data, .sentinel, .sentinel] true (true, "cd703c012e5456b0e2c4be6653215308e6b561ea59fb1b562905c5074e047c31") true over (fun _ h => by cases h) (by kernel_rfl) (fun _ h => by cases h) fnExactParseCall_row_tie rfl ⟨rfl, rfl⟩ (by kernel_rfl) rfl
    (fun f fn hf hfn => by
      obtain rfl : 5 = f := Option.some.inj ((show Tryd.prog.funcNamed Rows.fnExactParseCallRow.func = some 5 by kernel_rfl).symm.trans hf)
      obtain rfl : Tryd.f5 = fn := Option.some.inj (Tryd.func5.symm.trans hfn)
      exact ⟨by kernel_rfl, fun j t ht => by
        rw [Tryd.params5] at ht
        have hm : t ∈ [9] := by simpa using Array.mem_of_getElem? ht
        have hall : ([9].all fun u => !Tryd.prog.wantsStandIn u) = true := by kernel_rfl
        exact (show Tryd.prog.wantsStandIn t = false by simpa using List.all_eq_true.1 hall t hm)⟩)
    (by kernel_rfl)
#print axioms proved
end Go.Proofs.YtabbgabdbkbjcaaDoor.fnExactParseCall
