/- FnExactParseCells: for every input the law returns true, and its arguments read afterwards as they read before. No condition besides those of the statement itself. -/
import Derived.Test.YtabbgabdbkbjcaaDoorLawV
import Derived.Test.YtabbgabdbkbjcaaDoorCards
import Derived.Test.YtabbgabdbkbjcaaDoorTie
import Derived.LaidMore
import Derived.SevenTiedAt
import Derived.Stop.Joined
import Derived.Lay
import Derived.Test.YtabbgabdbkbjcaaDoorLaidR
import Derived.Test.YtabbgabdbkbjcaaDoorLibV
import Derived.Test.YtabbgabdbkbjcaaDoorMarkC
import Derived.Test.YtabbgabdbkbjcaaDoorOpen
import Derived.Test.YtabbgabdbkbjcaaDoorPCells
import Derived.ShutString
namespace Go.Proofs.YtabbgabdbkbjcaaDoor.fnExactParseCells
open Go.ChangeShapes Go.WideShapes Go.ChangeAt Go.RowKit
set_option maxRecDepth 100000
open Go.ChangeMaps (open_string shut_string)
set_option linter.unusedVariables false

theorem own : ownKnob Tryd.prog.godebug = none := by kernel_rfl

/-- The walk: the Go text returns true. -/
theorem walk (w : World) (hT : Pow10 w) (hE : ErrSyn w) (hM : MaxC w) (a0 : ByteArray) (w0 : a0.size ≤ maxLen) :
    Calls Tryd.prog 6 #[.string a0] w fun e w' => e = .returned (.bool true) ∧ Below w.heap.size w w' := by
  have hlM := hM.lt
  have hlT := hT.lt
  have hlE := hE.lt
  have HM := hide hM
  have HT := hide hT
  have HE := hide hE
  clear hM hT hE
  unfold maxLen at w0
  by_cases hs0 : a0.size ≤ 1048576
  · have hml : (Pu.pcL a0).length ≤ 1048577 := Pu.pcL_len a0 hs0
    go_enter Tryd.func6, Tryd.ntmps6
    go_wp2_with fail
    refine (sParseCells_c _ _ hs0).mono ?_; rintro e W1 ⟨v1, rfl, o1, b1⟩
    go_wp2_with fail
    refine (iParseCells_c _ _ (HM.out.below b1 hlM) (HT.out.below b1 hlT) (HE.out.below b1 hlE) hs0).mono ?_; rintro e W2 ⟨v2, rfl, o2, b2⟩
    have r1 : RdL W1 2 cellEn v1 _ := o1.rd (fun _ => rfl)
    have r2 : RdL W2 2 cellEn v2 _ := o2.rd (fun _ => rfl)
    go_wp2_with fail
    refine (eqCellS_c _ _ _ _ rfl _ r2 (RdL.below r1 b2 (Nat.le_refl _))).mono ?_; rintro e W3 ⟨rfl, b3⟩
    have c3 : Below W1.heap.size W1 W3 := below_then b2 b3
    have g3 := o2.below b3 (Nat.le_refl _)
    go_wp2_with fail
    refine (markCellS_c _ _ _ _ _ g3 (by omega) (by omega) (by omega)).mono ?_; rintro e W4 ⟨rfl, o4, h4⟩
    have c4 : Below W1.heap.size W1 W4 := c3.grown h4 c3.size (fun k hk => (g3.lt hk).1)
    have r4 : RdL W4 2 cellEn v2 _ := o4.rd (fun _ => rfl)
    go_wp2_with fail
    refine (heldCellS_c _ _ _ _ r4 (by omega) (by omega) (by omega)).mono ?_; rintro e W5 ⟨rfl, b5⟩
    have c5 : Below W1.heap.size W1 W5 := below_then c4 b5
    have c5w := below_then b1 c5
    go_wp2_with fail
    refine (iParseCells_c _ _ (HM.out.below c5w hlM) (HT.out.below c5w hlT) (HE.out.below c5w hlE) hs0).mono ?_; rintro e W6 ⟨v3, rfl, o6, b6⟩
    have r6 : RdL W6 2 cellEn v3 _ := o6.rd (fun _ => rfl)
    have c6 : Below W1.heap.size W1 W6 := below_then c5 b6
    go_wp2_with fail
    refine (eqCellS_c _ _ _ _ rfl _ r6 (RdL.below r1 c6 (Nat.le_refl _))).mono ?_; rintro e W7 ⟨rfl, b7⟩
    have c7 : Below W1.heap.size W1 W7 := below_then c6 b7
    have d7 : Below W4.heap.size W4 W7 := below_then (below_then b5 b6) b7
    go_wp2_with fail
    refine (heldCellS_c _ _ _ _ (RdL.below r4 d7 (Nat.le_refl _)) (by omega) (by omega) (by omega)).mono ?_; rintro e W8 ⟨rfl, b8⟩
    go_wp2
    go_ret
    exact ⟨rfl, below_then (below_then b1 c7) b8⟩
  · go_enter Tryd.func6, Tryd.ntmps6
    go_wp2
    go_ret
    exact ⟨rfl, Below.refl _ _⟩

/-- The laid heap meets the condition. -/
theorem door_met (os : Os) (args : Array Value) : laidMetH Tryd.prog Rows.fnExactParseCellsRow.laid ((World.laidAll Tryd.prog os Rows.fnExactParseCellsRow.laid).forCall (fun _ _ => 0) ⟨#[], args, []⟩).memory := by
  rw [MakeChecks.laidMetH_plain _ _ _ (by kernel_rfl)]
  exact laidMet_laidAll _ (by kernel_rfl) (by kernel_rfl)

set_option maxRecDepth 100000 in
theorem lifted (os : Os) (started : os.Started) (H : Type) (enc : TypeId × Value → H) :
    ReturnsInHanded {} Tryd.checked os 6 .any (fun w args => (Rows.fnExactParseCellsSpec.pre enc Tryd.prog Tryd.f6 [] false w args ∧ laidMetH Tryd.prog Rows.fnExactParseCellsRow.laid w) ∧ sizedMet enc Tryd.prog Tryd.f6 (OpenSpec.ofChange Rows.fnExactParseCellsSpec) false w args) (Rows.fnExactParseCellsSpec.post enc Tryd.prog Tryd.f6 false true false false) := by
  refine wrapV (C := Tryd.checked) (X := fun w _ => laidMetH Tryd.prog Rows.fnExactParseCellsRow.laid w) (fun _ _ _ hh h => h.of_heap hh) own started (by kernel_rfl) Tryd.func6
    (ChangeSpec.witness_shaped (enc := enc) (C := Tryd.checked) (os := os) (X := fun w _ => laidMetH Tryd.prog Rows.fnExactParseCellsRow.laid w) false (World.laidAll Tryd.prog os Rows.fnExactParseCellsRow.laid) #[.string ByteArray.empty] 8 (World.laidAll_os _ _ _) (World.shaped_of_ZipB (by kernel_rfl) (by kernel_rfl)) (by kernel_rfl) (by kernel_rfl) (by kernel_rfl) (door_met os _)) ?_
  intro W base args ds gs before hval0 hW hL hS
  have hval : ∀ (j : Nat) t v, Tryd.f6.params[j]? = some t → args[j]? = some v → Value.okWide Tryd.prog W .any base t v := hval0
  have hW' := hW
  obtain ⟨p, q, hA0, hV, rfl, hfz, hnd⟩ := hW
  have hA : DataW.TrodAll enc Tryd.prog W 0 (fun _ => true) true Tryd.f6.params.toList args.toList ds p := hA0
  rw [Tryd.params6] at hA hval
  obtain ⟨v0, vs0, d0, ds0, p0, q0, hargs, rfl, rfl, h0, r0⟩ := trodAll_cons hA
  obtain ⟨rfl, rfl, rfl⟩ := trodAll_nil r0
  obtain rfl : args = #[v0] := by cases args; simp_all
  obtain ⟨rfl, rfl⟩ := trodVars_none hV
  obtain ⟨a0, rfl, rfl, rfl, w0⟩ := open_string Tryd.underlying9 (hval 0 9 v0 rfl rfl) h0
  refine (walk W (pow10_of (met_reads hL (by kernel_rfl) (.tail _ (.tail _ (.head _))))) (errsyn_of (met_reads hL (by kernel_rfl) (.tail _ (.tail _ (.tail _ (.tail _ (.tail _ (.head _)))))))) (maxc_of hS) a0 w0).mono fun e W' ⟨he, hg⟩ => ?_
  subst he
  exact ⟨_, rfl, law_postV (tb := 4) (by kernel_rfl) (by kernel_rfl) (by kernel_rfl) hW' hg rfl Tryd.underlying4 rfl rfl rfl⟩

theorem over : Rows.FnExactParseCellsSaid :=
  OpenClaim.holds_of_wide 6 Tryd.f6 rfl rfl rfl rfl rfl rfl rfl ⟨rfl, rfl, rfl, rfl, rfl⟩ rfl rfl rfl rfl rfl (by kernel_rfl) Tryd.func6 (by kernel_rfl)
    (of_decide_eq_true (by kernel_rfl)) (by unfold Func.isWrapper; first | (rw [if_pos (by decide +kernel)]; kernel_rfl) | (rw [if_neg (by decide +kernel)]; exact ⟨rfl, rfl⟩))
    (fun os started H enc _ => lifted os started H enc)

/-- The statement: the tied card. -/
theorem proved : Rows.FnExactParseCellsCardSaid :=
  Claim7.holds_tied_plain_at .later [] [.data, .data, .data, .data, .sentinel, .sentinel, .pinned] true (true, "cd703c012e5456b0e2c4be6653215308e6b561ea59fb1b562905c5074e047c31") true over (fun _ h => by cases h) (by kernel_rfl) (fun _ h => by cases h) fnExactParseCells_row_tie rfl ⟨rfl, rfl⟩ (by kernel_rfl) rfl
    (fun f fn hf hfn => by
      obtain rfl : 6 = f := Option.some.inj ((show Tryd.prog.funcNamed Rows.fnExactParseCellsRow.func = some 6 by kernel_rfl).symm.trans hf)
      obtain rfl : Tryd.f6 = fn := Option.some.inj (Tryd.func6.symm.trans hfn)
      exact ⟨by kernel_rfl, fun j t ht => by
        rw [Tryd.params6] at ht
        have hm : t ∈ [9] := by simpa using Array.mem_of_getElem? ht
        have hall : ([9].all fun u => !Tryd.prog.wantsStandIn u) = true := by kernel_rfl
        exact (show Tryd.prog.wantsStandIn t = false by simpa using List.all_eq_true.1 hall t hm)⟩)
    (by kernel_rfl)
#print axioms proved
end Go.Proofs.YtabbgabdbkbjcaaDoor.fnExactParseCells
