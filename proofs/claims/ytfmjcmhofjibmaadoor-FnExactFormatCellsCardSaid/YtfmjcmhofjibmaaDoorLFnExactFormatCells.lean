/- FnExactFormatCells: for every input the law returns true, and its arguments read afterwards as they read before. No condition besides those of the statement itself. -/
import Derived.Test.YtfmjcmhofjibmaaDoorLawV
import Derived.Test.YtfmjcmhofjibmaaDoorCards
import Derived.Test.YtfmjcmhofjibmaaDoorTie
import Derived.LaidMore
import Derived.SevenTiedAt
import Derived.Stop.Joined
import Derived.Test.YtfmjcmhofjibmaaDoorLaidR
import Derived.Test.YtfmjcmhofjibmaaDoorLibV
import Derived.Test.YtfmjcmhofjibmaaDoorCellText
import Derived.Test.YtfmjcmhofjibmaaDoorCellH
import Derived.Test.YtfmjcmhofjibmaaDoorOpen
import Derived.ShutString
namespace Go.Proofs.YtfmjcmhofjibmaaDoor.fnExactFormatCells
open Go.ChangeShapes Go.WideShapes Go.ChangeAt Go.RowKit
set_option maxRecDepth 100000
open Go.ChangeMaps (open_string shut_string)
set_option linter.unusedVariables false

theorem own : ownKnob Tryd.prog.godebug = none := by kernel_rfl

/-- The walk: the Go text returns true. -/
theorem walk (w : World) (hT : Pow10 w) (v0 : Value) (a0 : List Pu.CellD) (hv0 : RdCells w v0 a0) :
    Calls Tryd.prog 6 #[v0] w fun e w' => e = .returned (.bool true) ∧ Below w.heap.size w w' := by
  obtain ⟨r0, z0⟩ := hv0
  have hlt := hT.lt
  have HT := hide hT
  have Z0 := hide z0
  clear z0 hT
  by_cases hs : (a0.length + Pu.tot (a0.map (·.key)) : Int) ≤ 1048576
  · have hsz : Hid (Pu.szStr (a0.map (·.key)) 1048576 = 1048576 - (a0.length + Pu.tot (a0.map (·.key)))) := by rw [Hid, Pu.szStr, List.length_map, if_pos hs]
    have hln : a0.length ≤ 1048576 := by omega
    go_enter Tryd.func6, Tryd.ntmps6
    go_wp2_with fail
    refine (szCellS_c _ _ _ _ ⟨r0, Z0.out⟩ (by omega) (by omega)).mono ?_; rintro e W1 ⟨rfl, b1⟩
    rw [hsz.out]
    have r1 : RdL W1 2 cellEn v0 a0 := RdL.below r0 b1 (Nat.le_refl _)
    go_wp2_with fail
    refine (toCellS_c _ _ _ r1 hln).mono ?_; rintro e W2 ⟨v2, rfl, o2, b2⟩
    have r2 : RdL W2 2 cellEn v2 a0 := o2.rd (fun _ => rfl)
    have c2 := below_then b1 b2
    go_wp2_with fail
    refine (sFormatCells_c _ _ _ ⟨r2, Z0.out⟩).mono ?_; rintro e W3 ⟨rfl, b3⟩
    have c3 := below_then c2 b3
    go_wp2_with fail
    refine (toCellS_c _ _ _ (RdL.below r0 c3 (Nat.le_refl _)) hln).mono ?_; rintro e W4 ⟨v4, rfl, o4, b4⟩
    have r4 : RdL W4 2 cellEn v4 a0 := o4.rd (fun _ => rfl)
    have c4 := below_then c3 b4
    go_wp2_with fail
    refine (iFormatCells_c _ _ _ (HT.out.below c4 hlt) ⟨r4, Z0.out⟩).mono ?_; rintro e W5 ⟨rfl, b5⟩
    have c5 := below_then c4 b5
    go_wp2_with fail
    refine (toCellS_c _ _ _ (RdL.below r0 c5 (Nat.le_refl _)) hln).mono ?_; rintro e W6 ⟨v6, rfl, o6, b6⟩
    have r6 : RdL W6 2 cellEn v6 a0 := o6.rd (fun _ => rfl)
    have c6 := below_then c5 b6
    go_wp2_with fail
    refine (eqCellS_c _ _ _ _ rfl _ (RdL.below r4 (below_then b5 b6) (Nat.le_refl _)) r6).mono ?_; rintro e W7 ⟨rfl, b7⟩
    go_wp2
    go_ret
    exact ⟨rfl, below_then c6 b7⟩
  · have hsz : Hid (Pu.szStr (a0.map (·.key)) 1048576 = -1) := by rw [Hid, Pu.szStr, List.length_map, if_neg hs]
    go_enter Tryd.func6, Tryd.ntmps6
    go_wp2_with fail
    refine (szCellS_c _ _ _ _ ⟨r0, Z0.out⟩ (by omega) (by omega)).mono ?_; rintro e W1 ⟨rfl, b1⟩
    rw [hsz.out]
    go_wp2
    go_ret
    exact ⟨rfl, b1⟩

/-- The heap that the door leaves meets the condition. -/
theorem door_met (os : Os) (args : Array Value) : laidMetH Tryd.prog Rows.fnExactFormatCellsRow.laid ((World.doorLaid Tryd.prog 67 os).forCall (fun _ _ => 0) ⟨#[], args, []⟩).memory :=
  laidMetH_of_parts3 (fuel := 8) (laidMet_of_run' 8 (by kernel_rfl) (by kernel_rfl)) (by kernel_rfl) (by kernel_rfl)

set_option maxRecDepth 100000 in
theorem lifted (os : Os) (started : os.Started) (H : Type) (enc : TypeId × Value → H) :
    ReturnsInHanded {} Tryd.checked os 6 .any (fun w args => (Rows.fnExactFormatCellsSpec.pre enc Tryd.prog Tryd.f6 [] false w args ∧ laidMetH Tryd.prog Rows.fnExactFormatCellsRow.laid w) ∧ sizedMet enc Tryd.prog Tryd.f6 (OpenSpec.ofChange Rows.fnExactFormatCellsSpec) false w args) (Rows.fnExactFormatCellsSpec.post enc Tryd.prog Tryd.f6 false true false false) := by
  refine wrapV (C := Tryd.checked) (X := fun w _ => laidMetH Tryd.prog Rows.fnExactFormatCellsRow.laid w) (fun _ _ _ hh h => h.of_heap hh) own started (by kernel_rfl) Tryd.func6
    (ChangeSpec.witness_shaped (enc := enc) (C := Tryd.checked) (os := os) (X := fun w _ => laidMetH Tryd.prog Rows.fnExactFormatCellsRow.laid w) false (World.doorLaid Tryd.prog 67 os) #[.slice none 0 0] 8 rfl (World.shaped_of_RefB (by kernel_rfl) (by kernel_rfl)) (by kernel_rfl) (by kernel_rfl) (by kernel_rfl) (door_met os _)) ?_
  intro W base args ds gs before hval0 hW hL hS
  have hval : ∀ (j : Nat) t v, Tryd.f6.params[j]? = some t → args[j]? = some v → Value.okWide Tryd.prog W .any base t v := hval0
  have hW' := hW
  obtain ⟨p, q, hA0, hV, rfl, hfz, hnd⟩ := hW
  have hA : DataW.TrodAll enc Tryd.prog W 0 (fun _ => true) true Tryd.f6.params.toList args.toList ds p := hA0
  rw [Tryd.params6] at hA hval
  obtain ⟨v0, vs0, d0, ds0, p0, q0, hargs, rfl, rfl, h0, r0⟩ := trodAll_cons hA
  obtain ⟨rfl, rfl, rfl⟩ := trodAll_nil r0
  obtain rfl : args = #[v0] := by cases args; simp_all
  obtain ⟨rfl, rfl⟩ := trodVars_none hV
  obtain ⟨a0, hv0⟩ := open_cells (hval 0 38 v0 rfl rfl) h0
  refine (walk W (pow10_of (met_reads hL (by kernel_rfl) (.tail _ (.tail _ (.head _))))) v0 a0 hv0).mono fun e W' ⟨he, hg⟩ => ?_
  subst he
  exact ⟨_, rfl, law_postV (tb := 4) (by kernel_rfl) (by kernel_rfl) (by kernel_rfl) hW' hg rfl Tryd.underlying4 rfl rfl rfl⟩

theorem over : Rows.FnExactFormatCellsSaid :=
  OpenClaim.holds_of_wide 6 Tryd.f6 rfl rfl rfl rfl rfl rfl rfl ⟨rfl, rfl, rfl, rfl, rfl⟩ rfl rfl rfl rfl rfl (by kernel_rfl) Tryd.func6 (by kernel_rfl)
    (of_decide_eq_true (by kernel_rfl)) (by unfold Func.isWrapper; first | (rw [if_pos (by decide +kernel)]; kernel_rfl) | (rw [if_neg (by decide +kernel)]; exact ⟨rfl, rfl⟩))
    (fun os started H enc _ => lifted os started H enc)

/-- The statement: the tied card. -/
theorem proved : Rows.FnExactFormatCellsCardSaid :=
  Claim7.holds_tied_plain_at .later [] [.data, .data, .data] true (true, "2eef0de22bfc974571e8865883a0fd6c84b41d58485be21194b501425f3fe2bf") true over (fun _ h => by cases h) (by kernel_rfl) (fun _ h => by cases h) fnExactFormatCells_row_tie rfl ⟨rfl, rfl⟩ (by kernel_rfl) rfl
    (fun f fn hf hfn => by
      obtain rfl : 6 = f := Option.some.inj ((show Tryd.prog.funcNamed Rows.fnExactFormatCellsRow.func = some 6 by kernel_rfl).symm.trans hf)
      obtain rfl : Tryd.f6 = fn := Option.some.inj (Tryd.func6.symm.trans hfn)
      exact ⟨by kernel_rfl, fun j t ht => by
        rw [Tryd.params6] at ht
        have hm : t ∈ [38] := by simpa using Array.mem_of_getElem? ht
        have hall : ([38].all fun u => !Tryd.prog.wantsStandIn u) = true := by kernel_rfl
        exact (show Tryd.prog.wantsStandIn t = false by simpa using List.all_eq_true.1 hall t hm)⟩)
    (by kernel_rfl)
#print axioms proved
end Go.Proofs.YtfmjcmhofjibmaaDoor.fnExactFormatCells
