/- FnSaveLoad: for every input the law returns true, and its arguments read afterwards as they read before. No condition besides those of the statement itself. -/
import Derived.Test.YtllmcnmongaahaaGreatDoorM0
import Derived.Test.YtllmcnmongaahaaGreatDoorCards
import Derived.Test.YtllmcnmongaahaaGreatDoorTie
import Derived.LaidMore
import Derived.SevenTiedAt
import Derived.Stop.Joined
import Derived.Lay
import Derived.Test.YtllmcnmongaahaaGreatDoorM1
import Derived.Test.YtllmcnmongaahaaGreatDoorInv3
import Derived.Test.YtllmcnmongaahaaGreatDoorDrawCalls
import Derived.Test.YtllmcnmongaahaaGreatDoorCalls
import Derived.Test.YtllmcnmongaahaaGreatDoorM6
import Derived.ShutString
namespace Go.Proofs.YtllmcnmongaahaaGreatDoor.fnSaveLoad
open Go.ChangeShapes Go.WideShapes Go.ChangeAt Go.RowKit
set_option maxRecDepth 100000
open Go.ChangeMaps (open_string shut_string)
set_option linter.unusedVariables false

theorem own : ownKnob Tryz.prog.godebug = none := by kernel_rfl

set_option maxHeartbeats 8000000 in
/-- The walk: the Go text returns true. -/
theorem walk (w : World) (hT : Pow10 w) (hE : ErrSyn w) (hM : MaxC w) (v0 : Value) (a0 : List UInt8) (hv0 : RdL w 1 byteEn v0 a0) :
    Calls Tryz.prog 10 #[v0] w fun e w' => e = .returned (.bool true) ∧ Below w.heap.size w w' := by
  have hlM := hM.lt
  have hlT := hT.lt
  have hlE := hE.lt
  have HM := hide hM
  have HT := hide hT
  have HE := hide hE
  have H0 := hide hv0
  clear hv0 hM hT hE
  rcases hbig : decide (4096 < a0.length) with _ | _
  · have hl : a0.length ≤ 4096 := by simpa using hbig
    go_enter Tryz.func10, Tryz.ntmps10
    go_wp2_with fail
    refine (big_c _ _ _ H0.out).mono ?_; rintro e w' ⟨rfl, rfl⟩
    rw [hbig]
    go_wp2_with fail
    refine (drawCallCores_c _ _ _ H0.out hl).mono ?_; rintro e W1 ⟨p, s, u, m, rfl, o1, hp, o2, hm8, hm, BW⟩
    obtain ⟨A, c, rfl, _, _, _⟩ := RdL.open_ o1
    obtain ⟨U, d, rfl, _, _, _⟩ := RdL.open_ o2
    have HP := hide hp
    have HXM := hide hm
    have OP := hide o1
    have OU := hide o2
    clear hp hm hbig o1 o2
    unfold coreV
    have BU : Below W1.heap.size W1 W1 := Below.refl _ _
    rcases hcp : Pu.coreB p with _ | _
    · replace hcp := hide hcp
      obtain ⟨W2, hW2⟩ : ∃ W, Hid (W1.alloc (.cells #[.string p.kind, .bool p.on, .bool p.broken, .slice A p.cells.length c, .int .i64 p.count] 31 : Obj) = W) := ⟨_, rfl⟩
      have b : Below W1.heap.size W1 W2 := by rw [← hW2.out]; exact below_alloc (Below.refl _ _) _
      have OP := hide (show RdL W2 2 cellEn (.slice A p.cells.length c) p.cells from RdL.below OP.out b (Nat.le_refl _))
      have BW := below_then BW b
      have BU := below_then BU b
      have RP := hide (show W2.heap[W1.heap.size]? = some (.cells #[.string p.kind, .bool p.on, .bool p.broken, .slice A p.cells.length c, .int .i64 p.count] 31 (0, 0) : Obj) by rw [← hW2.out]; exact heap_new rfl)
      have EP := hide (show (W1.alloc (.cells #[.string p.kind, .bool p.on, .bool p.broken, .slice A p.cells.length c, .int .i64 p.count] 31 : Obj)).heap[W1.heap.size]? = some (.cells #[.string p.kind, .bool p.on, .bool p.broken, .slice A p.cells.length c, .int .i64 p.count] 31 (0, 0) : Obj) by rw [hW2.out]; exact RP.out)
      obtain ⟨_, _, _, _, _, _⟩ := five_cells EP.out
      obtain ⟨_, _, _, _, _, _⟩ := five_cells RP.out
      go_upto_region 4 with fail
      rw [hW2.out]
      go_cut [22] from 11 (fun r wx => r = .bool false ∧ Below W2.heap.size W2 wx)
      case first =>
        have hzP : W1.heap.size < W2.heap.size := (Array.getElem?_eq_some_iff.1 RP.out).1
        have K0 : Below W2.heap.size W2 W2 := Below.refl _ _
        have KD : ∀ w' : World, Below W2.heap.size W2 w' → Below W2.heap.size W2 w'.drew := fun _ h => h.drew
        go_region_held3 (fun w' => Below W2.heap.size W2 w' ∧ w'.cell? ⟨W1.heap.size, 0, none⟩ = some (.string p.kind) ∧ w'.cell? ⟨W1.heap.size, 1, none⟩ = some (.bool p.on) ∧ w'.cell? ⟨W1.heap.size, 2, none⟩ = some (.bool p.broken) ∧ w'.cell? ⟨W1.heap.size, 3, none⟩ = some (.slice A p.cells.length c) ∧ w'.cell? ⟨W1.heap.size, 4, none⟩ = some (.int .i64 p.count)) (go_keep)
          (first
            | (go_at_call 42;
                refine (iIsCore_c p _ _ HP.out.wf ⟨RdL.below OP.out (And.left (by assumption)) (Nat.le_refl _), HP.out.2.2.wf⟩).mono ?_;
                rintro e WI0 ⟨rfl, bI⟩;
                rw [hcp.out];
                have KWWI0 : Below W2.heap.size W2 WI0 := below_then (And.left (by assumption)) bI;
                have KWI00 : ∀ k : Nat, WI0.cell? ⟨W1.heap.size, k, none⟩ = _ := fun k => bI.cell (Nat.lt_of_lt_of_le hzP (Below.size (And.left (by assumption)))))
            | (go_at_call 47;
                refine (sIsCore_c p _ _ ⟨RdL.below OP.out (And.left (by assumption)) (Nat.le_refl _), HP.out.2.2.wf⟩).mono ?_;
                rintro e WI1 ⟨rfl, bI⟩;
                rw [hcp.out];
                have KWWI1 : Below W2.heap.size W2 WI1 := below_then (And.left (by assumption)) bI;
                have KWI10 : ∀ k : Nat, WI1.cell? ⟨W1.heap.size, k, none⟩ = _ := fun k => bI.cell (Nat.lt_of_lt_of_le hzP (Below.size (And.left (by assumption))))))
        all_goals
          go_wp2_with fail
          go_meet
          exact ⟨rfl, by first | exact KWWI0 | exact KWWI1⟩
      case rest =>
      obtain ⟨rfl, b⟩ := hcut
      obtain ⟨W3, hxW3⟩ : ∃ W, wc = W := ⟨_, rfl⟩
      rw [hxW3] at b ⊢
      clear hxW3
      have RP := hide (show W3.heap[W1.heap.size]? = some (.cells #[.string p.kind, .bool p.on, .bool p.broken, .slice A p.cells.length c, .int .i64 p.count] 31 (0, 0) : Obj) from row_on b RP.out)
      have OP := hide (show RdL W3 2 cellEn (.slice A p.cells.length c) p.cells from RdL.below OP.out b (Nat.le_refl _))
      have BW := below_then BW b
      have BU := below_then BU b
      obtain ⟨_, _, _, _, _, _⟩ := five_cells RP.out
      go_wp2_with fail
      refine (iIsCore_c p _ _ HP.out.wf ⟨OP.out, HP.out.2.2.wf⟩).mono ?_; rintro e W4 ⟨rfl, b⟩
      have RP := hide (show W4.heap[W1.heap.size]? = some (.cells #[.string p.kind, .bool p.on, .bool p.broken, .slice A p.cells.length c, .int .i64 p.count] 31 (0, 0) : Obj) from row_on b RP.out)
      have OP := hide (show RdL W4 2 cellEn (.slice A p.cells.length c) p.cells from RdL.below OP.out b (Nat.le_refl _))
      have BW := below_then BW b
      have BU := below_then BU b
      rw [hcp.out]
      dsimp only
      obtain ⟨_, _, _, _, _, _⟩ := five_cells RP.out
      go_wp2
      go_ret
      first | exact ⟨rfl, BW⟩ | exact ⟨rfl, below_drewN BW _⟩
    · replace hcp := hide hcp
      have hws : CallD.wf (Pu.plainC Pu.mSave) := ⟨by decide, by decide, by decide, by decide⟩
      replace hws := hide hws
      have hts : (Pu.plainC Pu.mSave).text.size ≤ 1048576 := by decide
      replace hts := hide hts
      have hsv := Pu.save_is hcp.out
      obtain ⟨⟨qc, qv, qt, qw, qh⟩, HR⟩ : ∃ r : Pu.ReplyD, Hid (Pu.callF p (Pu.plainC Pu.mSave) = (p, r)) := ⟨_, Prod.ext hsv.1 rfl⟩
      replace hsv := hsv.2
      rw [HR.out] at hsv
      dsimp only at hsv
      replace hsv := hide hsv
      have hpl := (good_of hcp.out).2.2.2
      have hpc := hide (good_of hcp.out).1
      obtain ⟨W2, hW2⟩ : ∃ W, Hid (W1.alloc (.cells #[.string p.kind, .bool p.on, .bool p.broken, .slice A p.cells.length c, .int .i64 p.count] 31 : Obj) = W) := ⟨_, rfl⟩
      have b : Below W1.heap.size W1 W2 := by rw [← hW2.out]; exact below_alloc (Below.refl _ _) _
      have OP := hide (show RdL W2 2 cellEn (.slice A p.cells.length c) p.cells from RdL.below OP.out b (Nat.le_refl _))
      have BW := below_then BW b
      have BU := below_then BU b
      have RP := hide (show W2.heap[W1.heap.size]? = some (.cells #[.string p.kind, .bool p.on, .bool p.broken, .slice A p.cells.length c, .int .i64 p.count] 31 (0, 0) : Obj) by rw [← hW2.out]; exact heap_new rfl)
      have EP := hide (show (W1.alloc (.cells #[.string p.kind, .bool p.on, .bool p.broken, .slice A p.cells.length c, .int .i64 p.count] 31 : Obj)).heap[W1.heap.size]? = some (.cells #[.string p.kind, .bool p.on, .bool p.broken, .slice A p.cells.length c, .int .i64 p.count] 31 (0, 0) : Obj) by rw [hW2.out]; exact RP.out)
      obtain ⟨_, _, _, _, _, _⟩ := five_cells EP.out
      obtain ⟨_, _, _, _, _, _⟩ := five_cells RP.out
      go_upto_region 4 with fail
      rw [hW2.out]
      go_cut [22] from 11 (fun r wx => r = .bool false ∧ Below W2.heap.size W2 wx)
      case first =>
        have hzP : W1.heap.size < W2.heap.size := (Array.getElem?_eq_some_iff.1 RP.out).1
        have K0 : Below W2.heap.size W2 W2 := Below.refl _ _
        have KD : ∀ w' : World, Below W2.heap.size W2 w' → Below W2.heap.size W2 w'.drew := fun _ h => h.drew
        go_region_held3 (fun w' => Below W2.heap.size W2 w' ∧ w'.cell? ⟨W1.heap.size, 0, none⟩ = some (.string p.kind) ∧ w'.cell? ⟨W1.heap.size, 1, none⟩ = some (.bool p.on) ∧ w'.cell? ⟨W1.heap.size, 2, none⟩ = some (.bool p.broken) ∧ w'.cell? ⟨W1.heap.size, 3, none⟩ = some (.slice A p.cells.length c) ∧ w'.cell? ⟨W1.heap.size, 4, none⟩ = some (.int .i64 p.count)) (go_keep)
          (first
            | (go_at_call 42;
                refine (iIsCore_c p _ _ HP.out.wf ⟨RdL.below OP.out (And.left (by assumption)) (Nat.le_refl _), HP.out.2.2.wf⟩).mono ?_;
                rintro e WI0 ⟨rfl, bI⟩;
                rw [hcp.out];
                have KWWI0 : Below W2.heap.size W2 WI0 := below_then (And.left (by assumption)) bI;
                have KWI00 : ∀ k : Nat, WI0.cell? ⟨W1.heap.size, k, none⟩ = _ := fun k => bI.cell (Nat.lt_of_lt_of_le hzP (Below.size (And.left (by assumption)))))
            | (go_at_call 47;
                refine (sIsCore_c p _ _ ⟨RdL.below OP.out (And.left (by assumption)) (Nat.le_refl _), HP.out.2.2.wf⟩).mono ?_;
                rintro e WI1 ⟨rfl, bI⟩;
                rw [hcp.out];
                have KWWI1 : Below W2.heap.size W2 WI1 := below_then (And.left (by assumption)) bI;
                have KWI10 : ∀ k : Nat, WI1.cell? ⟨W1.heap.size, k, none⟩ = _ := fun k => bI.cell (Nat.lt_of_lt_of_le hzP (Below.size (And.left (by assumption))))))
        all_goals
          go_wp2_with fail
          go_meet
          exact ⟨rfl, by first | exact KWWI0 | exact KWWI1⟩
      case rest =>
      obtain ⟨rfl, b⟩ := hcut
      obtain ⟨W3, hxW3⟩ : ∃ W, wc = W := ⟨_, rfl⟩
      rw [hxW3] at b ⊢
      clear hxW3
      have RP := hide (show W3.heap[W1.heap.size]? = some (.cells #[.string p.kind, .bool p.on, .bool p.broken, .slice A p.cells.length c, .int .i64 p.count] 31 (0, 0) : Obj) from row_on b RP.out)
      have OP := hide (show RdL W3 2 cellEn (.slice A p.cells.length c) p.cells from RdL.below OP.out b (Nat.le_refl _))
      have BW := below_then BW b
      have BU := below_then BU b
      obtain ⟨_, _, _, _, _, _⟩ := five_cells RP.out
      go_wp2_with fail
      refine (iIsCore_c p _ _ HP.out.wf ⟨OP.out, HP.out.2.2.wf⟩).mono ?_; rintro e W4 ⟨rfl, b⟩
      have RP := hide (show W4.heap[W1.heap.size]? = some (.cells #[.string p.kind, .bool p.on, .bool p.broken, .slice A p.cells.length c, .int .i64 p.count] 31 (0, 0) : Obj) from row_on b RP.out)
      have OP := hide (show RdL W4 2 cellEn (.slice A p.cells.length c) p.cells from RdL.below OP.out b (Nat.le_refl _))
      have BW := below_then BW b
      have BU := below_then BU b
      rw [hcp.out]
      dsimp only
      obtain ⟨_, _, _, _, _, _⟩ := five_cells RP.out
      go_wp2_with fail
      refine (iCallCore_x p (Pu.plainC Pu.mSave) _ _ p.kind qt p.on p.broken p.cells p.count qc qv qw qh (HM.out.below BW hlM) (HT.out.below BW hlT) (HE.out.below BW hlE) HP.out.wf hws.out ⟨OP.out, HP.out.2.2.wf⟩ (by have := HP.out.2.2.1; omega) hts.out HR).mono ?_; rintro e W5 ⟨AW5, cW5, rfl, o5, b⟩
      have RP := hide (show W5.heap[W1.heap.size]? = some (.cells #[.string p.kind, .bool p.on, .bool p.broken, .slice A p.cells.length c, .int .i64 p.count] 31 (0, 0) : Obj) from row_on b RP.out)
      have OP := hide (show RdL W5 2 cellEn (.slice A p.cells.length c) p.cells from RdL.below OP.out b (Nat.le_refl _))
      have BW := below_then BW b
      have BU := below_then BU b
      have OQ := hide (show RdL W5 2 cellEn (.slice AW5 (p.cells).length cW5) (p.cells) from o5.rd (fun _ => rfl))
      clear o5
      obtain ⟨W6, hW6⟩ : ∃ W, Hid ((W5.alloc (.cells #[.string p.kind, .bool p.on, .bool p.broken, .slice AW5 (p.cells).length cW5, .int .i64 p.count] 31 : Obj)).alloc (.cells #[.int .i64 qc, .int .i64 qv, .string qt, .int .i64 qw, .int .i64 qh] 33 : Obj) = W) := ⟨_, rfl⟩
      have b : Below W5.heap.size W5 W6 := by rw [← hW6.out]; exact below_alloc (below_alloc (Below.refl _ _) _) _
      have RP := hide (show W6.heap[W1.heap.size]? = some (.cells #[.string p.kind, .bool p.on, .bool p.broken, .slice A p.cells.length c, .int .i64 p.count] 31 (0, 0) : Obj) from row_on b RP.out)
      have OP := hide (show RdL W6 2 cellEn (.slice A p.cells.length c) p.cells from RdL.below OP.out b (Nat.le_refl _))
      have OQ := hide (show RdL W6 2 cellEn (.slice AW5 (p.cells).length cW5) p.cells from RdL.below OQ.out b (Nat.le_refl _))
      have BW := below_then BW b
      have BU := below_then BU b
      have RQ := hide (show W6.heap[W5.heap.size]? = some (.cells #[.string p.kind, .bool p.on, .bool p.broken, .slice AW5 (p.cells).length cW5, .int .i64 p.count] 31 (0, 0) : Obj) by rw [← hW6.out]; exact heap_old (by simp) (heap_new rfl))
      have RR := hide (show W6.heap[W5.heap.size + 1]? = some (.cells #[.int .i64 qc, .int .i64 qv, .string qt, .int .i64 qw, .int .i64 qh] 33 (0, 0) : Obj) by rw [← hW6.out]; exact heap_new (by simp))
      have EP := hide (show ((W5.alloc (.cells #[.string p.kind, .bool p.on, .bool p.broken, .slice AW5 (p.cells).length cW5, .int .i64 p.count] 31 : Obj)).alloc (.cells #[.int .i64 qc, .int .i64 qv, .string qt, .int .i64 qw, .int .i64 qh] 33 : Obj)).heap[W1.heap.size]? = some (.cells #[.string p.kind, .bool p.on, .bool p.broken, .slice A p.cells.length c, .int .i64 p.count] 31 (0, 0) : Obj) by rw [hW6.out]; exact RP.out)
      obtain ⟨_, _, _, _, _, _⟩ := five_cells EP.out
      have EQ := hide (show ((W5.alloc (.cells #[.string p.kind, .bool p.on, .bool p.broken, .slice AW5 (p.cells).length cW5, .int .i64 p.count] 31 : Obj)).alloc (.cells #[.int .i64 qc, .int .i64 qv, .string qt, .int .i64 qw, .int .i64 qh] 33 : Obj)).heap[W5.heap.size]? = some (.cells #[.string p.kind, .bool p.on, .bool p.broken, .slice AW5 (p.cells).length cW5, .int .i64 p.count] 31 (0, 0) : Obj) by rw [hW6.out]; exact RQ.out)
      obtain ⟨_, _, _, _, _, _⟩ := five_cells EQ.out
      have ER := hide (show ((W5.alloc (.cells #[.string p.kind, .bool p.on, .bool p.broken, .slice AW5 (p.cells).length cW5, .int .i64 p.count] 31 : Obj)).alloc (.cells #[.int .i64 qc, .int .i64 qv, .string qt, .int .i64 qw, .int .i64 qh] 33 : Obj)).heap[W5.heap.size + 1]? = some (.cells #[.int .i64 qc, .int .i64 qv, .string qt, .int .i64 qw, .int .i64 qh] 33 (0, 0) : Obj) by rw [hW6.out]; exact RR.out)
      obtain ⟨_, _, _, _, _, _⟩ := five_cells ER.out
      by_cases hq0 : qc = 0
      rotate_left
      · have hb0 : (qc == 0) = false := by simp [hq0]
        have hn0 : (qc != 0) = true := by simp [hq0]
        obtain ⟨_, _, _, _, _, _⟩ := five_cells RP.out
        obtain ⟨_, _, _, _, _, _⟩ := five_cells RQ.out
        obtain ⟨_, _, _, _, _, _⟩ := five_cells RR.out
        go_wp2_with fail
        rw [hW6.out]
        refine (iSameCore_c p p _ _ _ OP.out OQ.out).mono ?_; rintro e W7 ⟨rfl, b⟩
        have RP := hide (show W7.heap[W1.heap.size]? = some (.cells #[.string p.kind, .bool p.on, .bool p.broken, .slice A p.cells.length c, .int .i64 p.count] 31 (0, 0) : Obj) from row_on b RP.out)
        have RQ := hide (show W7.heap[W5.heap.size]? = some (.cells #[.string p.kind, .bool p.on, .bool p.broken, .slice AW5 (p.cells).length cW5, .int .i64 p.count] 31 (0, 0) : Obj) from row_on b RQ.out)
        have RR := hide (show W7.heap[W5.heap.size + 1]? = some (.cells #[.int .i64 qc, .int .i64 qv, .string qt, .int .i64 qw, .int .i64 qh] 33 (0, 0) : Obj) from row_on b RR.out)
        have OP := hide (show RdL W7 2 cellEn (.slice A p.cells.length c) p.cells from RdL.below OP.out b (Nat.le_refl _))
        have OQ := hide (show RdL W7 2 cellEn (.slice AW5 (p.cells).length cW5) p.cells from RdL.below OQ.out b (Nat.le_refl _))
        have BW := below_then BW b
        have BU := below_then BU b
        rw [sameCore_refl]
        obtain ⟨_, _, _, _, _, _⟩ := five_cells RP.out
        obtain ⟨_, _, _, _, _, _⟩ := five_cells RQ.out
        obtain ⟨_, _, _, _, _, _⟩ := five_cells RR.out
        go_wp2
        go_ret
        first | exact ⟨rfl, BW⟩ | exact ⟨rfl, below_drewN BW _⟩
      obtain ⟨hof, hqt⟩ := hsv.out hq0
      subst hqt hq0
      replace hof := hide hof
      obtain ⟨⟨⟨xk, xo, xb, xl, xn⟩, xr⟩, HX⟩ : ∃ X : Pu.CoreD × List Pu.ReplyD, Hid (Pu.callsF p m = X) := ⟨_, rfl⟩
      have hgd := Pu.callsF_good (l := m) hcp.out
      rw [HX.out] at hgd
      obtain ⟨hx1, hx2⟩ := hgd
      dsimp only at hx1 hx2
      subst hx2
      replace hx1 := hide hx1
      have hxl := (good_of hx1.out).2.2.2
      have hwx : CoreD.wf ⟨p.kind, xo, xb, xl, xn⟩ := ⟨HP.out.wf.1, WalkArith.wf_i64 (by have := (good_of hx1.out).2; omega)⟩
      replace hwx := hide hwx
      obtain ⟨_, _, _, _, _, _⟩ := five_cells RP.out
      obtain ⟨_, _, _, _, _, _⟩ := five_cells RQ.out
      obtain ⟨_, _, _, _, _, _⟩ := five_cells RR.out
      go_wp2_with fail
      rw [hW6.out]
      refine (iCallCores_c p _ _ m _ (HM.out.below BW hlM) (HT.out.below BW hlT) (HE.out.below BW hlE) HP.out.wf ⟨OQ.out, HP.out.2.2.wf⟩ (by have := HP.out.2.2.1; omega) (RdL.below OU.out BU (Nat.le_refl _)) (fun x hx => ⟨(HXM.out x hx).wf, (HXM.out x hx).text⟩) (by omega)).mono ?_; rintro e W7 ⟨sX, uX, rfl, oX, oR, b⟩
      rw [HX.out] at oX oR ⊢
      dsimp only at oX oR
      obtain ⟨AX, cX, rfl⟩ := oX.shape
      obtain ⟨AR, cR, rfl⟩ := oR.shape
      unfold coreV
      dsimp only
      have RP := hide (show W7.heap[W1.heap.size]? = some (.cells #[.string p.kind, .bool p.on, .bool p.broken, .slice A p.cells.length c, .int .i64 p.count] 31 (0, 0) : Obj) from row_on b RP.out)
      have RQ := hide (show W7.heap[W5.heap.size]? = some (.cells #[.string p.kind, .bool p.on, .bool p.broken, .slice AW5 (p.cells).length cW5, .int .i64 p.count] 31 (0, 0) : Obj) from row_on b RQ.out)
      have RR := hide (show W7.heap[W5.heap.size + 1]? = some (.cells #[.int .i64 0, .int .i64 qv, .string (Pu.cellsT p.cells), .int .i64 qw, .int .i64 qh] 33 (0, 0) : Obj) from row_on b RR.out)
      have OP := hide (show RdL W7 2 cellEn (.slice A p.cells.length c) p.cells from RdL.below OP.out b (Nat.le_refl _))
      have OQ := hide (show RdL W7 2 cellEn (.slice AW5 (p.cells).length cW5) p.cells from RdL.below OQ.out b (Nat.le_refl _))
      have BW := below_then BW b
      have BU := below_then BU b
      have OX := hide (show RdL W7 2 cellEn (.slice AX xl.length cX) xl from oX.rd (fun _ => rfl))
      clear oX oR
      obtain ⟨W8, hW8⟩ : ∃ W, Hid (W7.alloc (.cells #[.string p.kind, .bool xo, .bool xb, .slice AX xl.length cX, .int .i64 xn] 31 : Obj) = W) := ⟨_, rfl⟩
      have b : Below W7.heap.size W7 W8 := by rw [← hW8.out]; exact below_alloc (Below.refl _ _) _
      have RP := hide (show W8.heap[W1.heap.size]? = some (.cells #[.string p.kind, .bool p.on, .bool p.broken, .slice A p.cells.length c, .int .i64 p.count] 31 (0, 0) : Obj) from row_on b RP.out)
      have RQ := hide (show W8.heap[W5.heap.size]? = some (.cells #[.string p.kind, .bool p.on, .bool p.broken, .slice AW5 (p.cells).length cW5, .int .i64 p.count] 31 (0, 0) : Obj) from row_on b RQ.out)
      have RR := hide (show W8.heap[W5.heap.size + 1]? = some (.cells #[.int .i64 0, .int .i64 qv, .string (Pu.cellsT p.cells), .int .i64 qw, .int .i64 qh] 33 (0, 0) : Obj) from row_on b RR.out)
      have OP := hide (show RdL W8 2 cellEn (.slice A p.cells.length c) p.cells from RdL.below OP.out b (Nat.le_refl _))
      have OQ := hide (show RdL W8 2 cellEn (.slice AW5 (p.cells).length cW5) p.cells from RdL.below OQ.out b (Nat.le_refl _))
      have OX := hide (show RdL W8 2 cellEn (.slice AX xl.length cX) xl from RdL.below OX.out b (Nat.le_refl _))
      have BW := below_then BW b
      have BU := below_then BU b
      have RX := hide (show W8.heap[W7.heap.size]? = some (.cells #[.string p.kind, .bool xo, .bool xb, .slice AX xl.length cX, .int .i64 xn] 31 (0, 0) : Obj) by rw [← hW8.out]; exact heap_new rfl)
      have EP := hide (show (W7.alloc (.cells #[.string p.kind, .bool xo, .bool xb, .slice AX xl.length cX, .int .i64 xn] 31 : Obj)).heap[W1.heap.size]? = some (.cells #[.string p.kind, .bool p.on, .bool p.broken, .slice A p.cells.length c, .int .i64 p.count] 31 (0, 0) : Obj) by rw [hW8.out]; exact RP.out)
      obtain ⟨_, _, _, _, _, _⟩ := five_cells EP.out
      have EQ := hide (show (W7.alloc (.cells #[.string p.kind, .bool xo, .bool xb, .slice AX xl.length cX, .int .i64 xn] 31 : Obj)).heap[W5.heap.size]? = some (.cells #[.string p.kind, .bool p.on, .bool p.broken, .slice AW5 (p.cells).length cW5, .int .i64 p.count] 31 (0, 0) : Obj) by rw [hW8.out]; exact RQ.out)
      obtain ⟨_, _, _, _, _, _⟩ := five_cells EQ.out
      have ER := hide (show (W7.alloc (.cells #[.string p.kind, .bool xo, .bool xb, .slice AX xl.length cX, .int .i64 xn] 31 : Obj)).heap[W5.heap.size + 1]? = some (.cells #[.int .i64 0, .int .i64 qv, .string (Pu.cellsT p.cells), .int .i64 qw, .int .i64 qh] 33 (0, 0) : Obj) by rw [hW8.out]; exact RR.out)
      obtain ⟨_, _, _, _, _, _⟩ := five_cells ER.out
      have EX := hide (show (W7.alloc (.cells #[.string p.kind, .bool xo, .bool xb, .slice AX xl.length cX, .int .i64 xn] 31 : Obj)).heap[W7.heap.size]? = some (.cells #[.string p.kind, .bool xo, .bool xb, .slice AX xl.length cX, .int .i64 xn] 31 (0, 0) : Obj) by rw [hW8.out]; exact RX.out)
      obtain ⟨_, _, _, _, _, _⟩ := five_cells EX.out
      have hwl : CallD.wf (Pu.loadC (Pu.cellsT p.cells)) := ⟨(by show 4 ≤ maxLen; decide), (by show 0 ≤ maxLen; decide), (by show (Lit.int .i64 0).wf = true; decide), by have := Pu.cellsT_size p.cells; unfold maxLen; show (Pu.cellsT p.cells).size ≤ _; omega⟩
      replace hwl := hide hwl
      have htl : (Pu.loadC (Pu.cellsT p.cells)).text.size ≤ 1048576 := by have := Pu.cellsT_size p.cells; show (Pu.cellsT p.cells).size ≤ _; omega
      replace htl := hide htl
      have hld := Pu.load_is (p := ⟨p.kind, xo, xb, xl, xn⟩) hx1.out hof.out hpc.out
      obtain ⟨⟨⟨yk, yo, yb, yl, yn⟩, ⟨yc, yv, yt, yw, yh⟩⟩, HY⟩ : ∃ R : Pu.CoreD × Pu.ReplyD, Hid (Pu.callF ⟨p.kind, xo, xb, xl, xn⟩ (Pu.loadC (Pu.cellsT p.cells)) = R) := ⟨_, rfl⟩
      rw [HY.out] at hld
      dsimp only at hld
      replace hld := hide hld
      obtain ⟨_, _, _, _, _, _⟩ := five_cells RP.out
      obtain ⟨_, _, _, _, _, _⟩ := five_cells RQ.out
      obtain ⟨_, _, _, _, _, _⟩ := five_cells RR.out
      obtain ⟨_, _, _, _, _, _⟩ := five_cells RX.out
      go_wp2_with fail
      rw [hW8.out]
      refine (iCallCore_x ⟨p.kind, xo, xb, xl, xn⟩ (Pu.loadC (Pu.cellsT p.cells)) _ _ yk yt yo yb yl yn yc yv yw yh (HM.out.below BW hlM) (HT.out.below BW hlT) (HE.out.below BW hlE) hwx.out hwl.out ⟨OX.out, hxl.2⟩ (by show xl.length ≤ 16777216; have := hxl.1; omega) htl.out HY).mono ?_; rintro e W9 ⟨AW9, cW9, rfl, o5, b⟩
      have RP := hide (show W9.heap[W1.heap.size]? = some (.cells #[.string p.kind, .bool p.on, .bool p.broken, .slice A p.cells.length c, .int .i64 p.count] 31 (0, 0) : Obj) from row_on b RP.out)
      have RQ := hide (show W9.heap[W5.heap.size]? = some (.cells #[.string p.kind, .bool p.on, .bool p.broken, .slice AW5 (p.cells).length cW5, .int .i64 p.count] 31 (0, 0) : Obj) from row_on b RQ.out)
      have RR := hide (show W9.heap[W5.heap.size + 1]? = some (.cells #[.int .i64 0, .int .i64 qv, .string (Pu.cellsT p.cells), .int .i64 qw, .int .i64 qh] 33 (0, 0) : Obj) from row_on b RR.out)
      have RX := hide (show W9.heap[W7.heap.size]? = some (.cells #[.string p.kind, .bool xo, .bool xb, .slice AX xl.length cX, .int .i64 xn] 31 (0, 0) : Obj) from row_on b RX.out)
      have OP := hide (show RdL W9 2 cellEn (.slice A p.cells.length c) p.cells from RdL.below OP.out b (Nat.le_refl _))
      have OQ := hide (show RdL W9 2 cellEn (.slice AW5 (p.cells).length cW5) p.cells from RdL.below OQ.out b (Nat.le_refl _))
      have OX := hide (show RdL W9 2 cellEn (.slice AX xl.length cX) xl from RdL.below OX.out b (Nat.le_refl _))
      have BW := below_then BW b
      have BU := below_then BU b
      have OY := hide (show RdL W9 2 cellEn (.slice AW9 (yl).length cW9) (yl) from o5.rd (fun _ => rfl))
      clear o5
      obtain ⟨W10, hW10⟩ : ∃ W, Hid ((W9.alloc (.cells #[.string yk, .bool yo, .bool yb, .slice AW9 (yl).length cW9, .int .i64 yn] 31 : Obj)).alloc (.cells #[.int .i64 yc, .int .i64 yv, .string yt, .int .i64 yw, .int .i64 yh] 33 : Obj) = W) := ⟨_, rfl⟩
      have b : Below W9.heap.size W9 W10 := by rw [← hW10.out]; exact below_alloc (below_alloc (Below.refl _ _) _) _
      have RP := hide (show W10.heap[W1.heap.size]? = some (.cells #[.string p.kind, .bool p.on, .bool p.broken, .slice A p.cells.length c, .int .i64 p.count] 31 (0, 0) : Obj) from row_on b RP.out)
      have RQ := hide (show W10.heap[W5.heap.size]? = some (.cells #[.string p.kind, .bool p.on, .bool p.broken, .slice AW5 (p.cells).length cW5, .int .i64 p.count] 31 (0, 0) : Obj) from row_on b RQ.out)
      have RR := hide (show W10.heap[W5.heap.size + 1]? = some (.cells #[.int .i64 0, .int .i64 qv, .string (Pu.cellsT p.cells), .int .i64 qw, .int .i64 qh] 33 (0, 0) : Obj) from row_on b RR.out)
      have RX := hide (show W10.heap[W7.heap.size]? = some (.cells #[.string p.kind, .bool xo, .bool xb, .slice AX xl.length cX, .int .i64 xn] 31 (0, 0) : Obj) from row_on b RX.out)
      have OP := hide (show RdL W10 2 cellEn (.slice A p.cells.length c) p.cells from RdL.below OP.out b (Nat.le_refl _))
      have OQ := hide (show RdL W10 2 cellEn (.slice AW5 (p.cells).length cW5) p.cells from RdL.below OQ.out b (Nat.le_refl _))
      have OX := hide (show RdL W10 2 cellEn (.slice AX xl.length cX) xl from RdL.below OX.out b (Nat.le_refl _))
      have OY := hide (show RdL W10 2 cellEn (.slice AW9 (yl).length cW9) yl from RdL.below OY.out b (Nat.le_refl _))
      have BW := below_then BW b
      have BU := below_then BU b
      have RY := hide (show W10.heap[W9.heap.size]? = some (.cells #[.string yk, .bool yo, .bool yb, .slice AW9 (yl).length cW9, .int .i64 yn] 31 (0, 0) : Obj) by rw [← hW10.out]; exact heap_old (by simp) (heap_new rfl))
      have RS := hide (show W10.heap[W9.heap.size + 1]? = some (.cells #[.int .i64 yc, .int .i64 yv, .string yt, .int .i64 yw, .int .i64 yh] 33 (0, 0) : Obj) by rw [← hW10.out]; exact heap_new (by simp))
      have EP := hide (show ((W9.alloc (.cells #[.string yk, .bool yo, .bool yb, .slice AW9 (yl).length cW9, .int .i64 yn] 31 : Obj)).alloc (.cells #[.int .i64 yc, .int .i64 yv, .string yt, .int .i64 yw, .int .i64 yh] 33 : Obj)).heap[W1.heap.size]? = some (.cells #[.string p.kind, .bool p.on, .bool p.broken, .slice A p.cells.length c, .int .i64 p.count] 31 (0, 0) : Obj) by rw [hW10.out]; exact RP.out)
      obtain ⟨_, _, _, _, _, _⟩ := five_cells EP.out
      have EQ := hide (show ((W9.alloc (.cells #[.string yk, .bool yo, .bool yb, .slice AW9 (yl).length cW9, .int .i64 yn] 31 : Obj)).alloc (.cells #[.int .i64 yc, .int .i64 yv, .string yt, .int .i64 yw, .int .i64 yh] 33 : Obj)).heap[W5.heap.size]? = some (.cells #[.string p.kind, .bool p.on, .bool p.broken, .slice AW5 (p.cells).length cW5, .int .i64 p.count] 31 (0, 0) : Obj) by rw [hW10.out]; exact RQ.out)
      obtain ⟨_, _, _, _, _, _⟩ := five_cells EQ.out
      have ER := hide (show ((W9.alloc (.cells #[.string yk, .bool yo, .bool yb, .slice AW9 (yl).length cW9, .int .i64 yn] 31 : Obj)).alloc (.cells #[.int .i64 yc, .int .i64 yv, .string yt, .int .i64 yw, .int .i64 yh] 33 : Obj)).heap[W5.heap.size + 1]? = some (.cells #[.int .i64 0, .int .i64 qv, .string (Pu.cellsT p.cells), .int .i64 qw, .int .i64 qh] 33 (0, 0) : Obj) by rw [hW10.out]; exact RR.out)
      obtain ⟨_, _, _, _, _, _⟩ := five_cells ER.out
      have EX := hide (show ((W9.alloc (.cells #[.string yk, .bool yo, .bool yb, .slice AW9 (yl).length cW9, .int .i64 yn] 31 : Obj)).alloc (.cells #[.int .i64 yc, .int .i64 yv, .string yt, .int .i64 yw, .int .i64 yh] 33 : Obj)).heap[W7.heap.size]? = some (.cells #[.string p.kind, .bool xo, .bool xb, .slice AX xl.length cX, .int .i64 xn] 31 (0, 0) : Obj) by rw [hW10.out]; exact RX.out)
      obtain ⟨_, _, _, _, _, _⟩ := five_cells EX.out
      have EY := hide (show ((W9.alloc (.cells #[.string yk, .bool yo, .bool yb, .slice AW9 (yl).length cW9, .int .i64 yn] 31 : Obj)).alloc (.cells #[.int .i64 yc, .int .i64 yv, .string yt, .int .i64 yw, .int .i64 yh] 33 : Obj)).heap[W9.heap.size]? = some (.cells #[.string yk, .bool yo, .bool yb, .slice AW9 (yl).length cW9, .int .i64 yn] 31 (0, 0) : Obj) by rw [hW10.out]; exact RY.out)
      obtain ⟨_, _, _, _, _, _⟩ := five_cells EY.out
      have ES := hide (show ((W9.alloc (.cells #[.string yk, .bool yo, .bool yb, .slice AW9 (yl).length cW9, .int .i64 yn] 31 : Obj)).alloc (.cells #[.int .i64 yc, .int .i64 yv, .string yt, .int .i64 yw, .int .i64 yh] 33 : Obj)).heap[W9.heap.size + 1]? = some (.cells #[.int .i64 yc, .int .i64 yv, .string yt, .int .i64 yw, .int .i64 yh] 33 (0, 0) : Obj) by rw [hW10.out]; exact RS.out)
      obtain ⟨_, _, _, _, _, _⟩ := five_cells ES.out
      rcases hld.out with ⟨hxb, hyc⟩ | ⟨hxb, hyr, hyl⟩
      · subst hxb hyc
        obtain ⟨_, _, _, _, _, _⟩ := five_cells RP.out
        obtain ⟨_, _, _, _, _, _⟩ := five_cells RQ.out
        obtain ⟨_, _, _, _, _, _⟩ := five_cells RR.out
        obtain ⟨_, _, _, _, _, _⟩ := five_cells RX.out
        obtain ⟨_, _, _, _, _, _⟩ := five_cells RY.out
        obtain ⟨_, _, _, _, _, _⟩ := five_cells RS.out
        go_wp2
        rw [hW10.out]
        go_ret
        first | exact ⟨rfl, BW⟩ | exact ⟨rfl, below_drewN BW _⟩
      · subst hxb hyl
        injection hyr with e1 e2 e3 e4 e5
        subst e1 e2 e3 e4 e5
        obtain ⟨_, _, _, _, _, _⟩ := five_cells RP.out
        obtain ⟨_, _, _, _, _, _⟩ := five_cells RQ.out
        obtain ⟨_, _, _, _, _, _⟩ := five_cells RR.out
        obtain ⟨_, _, _, _, _, _⟩ := five_cells RX.out
        obtain ⟨_, _, _, _, _, _⟩ := five_cells RY.out
        obtain ⟨_, _, _, _, _, _⟩ := five_cells RS.out
        go_upto_region 15 with fail
        rw [hW10.out]
        have hzP : W1.heap.size < W10.heap.size := (Array.getElem?_eq_some_iff.1 RP.out).1
        have hzQ : W5.heap.size < W10.heap.size := (Array.getElem?_eq_some_iff.1 RQ.out).1
        have hzR : W5.heap.size + 1 < W10.heap.size := (Array.getElem?_eq_some_iff.1 RR.out).1
        have hzY : W9.heap.size < W10.heap.size := (Array.getElem?_eq_some_iff.1 RY.out).1
        have hzS : W9.heap.size + 1 < W10.heap.size := (Array.getElem?_eq_some_iff.1 RS.out).1
        have hss : ((Pu.cellsT p.cells).toList == (Pu.cellsT p.cells).toList) = true := by simp
        have hgr := guard_reply
        have heq := fun w => eql_reply 0 (p.cells.length : Int) 0 0 ⟨#[]⟩ ⟨#[]⟩ rfl w
        have h0inv : Below W10.heap.size W10 W10.drew := (Below.refl _ _).drew
        obtain ⟨G, hGdef⟩ : ∃ G : Nat → Value → World → Prop, G = (fun j v wx => match j with | 0 => (v = .agg #[.string p.kind, .bool p.on, .bool p.broken, .slice A p.cells.length c, .int .i64 p.count]) | 1 => (v = .agg #[.string p.kind, .bool p.on, .bool p.broken, .slice AW5 (p.cells).length cW5, .int .i64 p.count]) | 2 => (v = .bool true) | 3 => (v = .bool true) | 4 => (v = .agg #[.int .i64 0, .int .i64 (p.cells.length : Int), .string ⟨#[]⟩, .int .i64 0, .int .i64 0]) | 5 => (v = .pointer (some ⟨W1.heap.size, 3, none⟩)) | 6 => (v = .slice A p.cells.length c) | 7 => (v = .int .i64 (p.cells.length : Int)) | 8 => (v = .agg #[.int .i64 0, .int .i64 (p.cells.length : Int), .string ⟨#[]⟩, .int .i64 0, .int .i64 0]) | 9 => (v = .bool true) | 10 => (v = .bool true) | 11 => (v = .bool true) | 12 => (v = .pointer (some ⟨W9.heap.size, 3, none⟩)) | 13 => (v = .slice AW9 (p.cells).length cW9) | 14 => (v = .string (Pu.cellsT p.cells)) | 15 => (v = .pointer (some ⟨W5.heap.size + 1, 2, none⟩)) | 16 => (v = .string (Pu.cellsT p.cells)) | 17 => (v = .bool true) | 18 => (v = .bool true) | 19 => (v = .bool true) | 20 => (v = .pointer (some ⟨W1.heap.size, 3, none⟩)) | 21 => (v = .slice A p.cells.length c) | 22 => (v = .string (Pu.cellsT p.cells)) | 23 => (v = .pointer (some ⟨W5.heap.size + 1, 2, none⟩)) | 24 => (v = .string (Pu.cellsT p.cells)) | 25 => (v = .bool true) | 26 => (v = .bool true) | 27 => (v = .bool true) | _ => True) := ⟨_, rfl⟩
        have G0 : ∀ v wx, G 0 v wx = (v = .agg #[.string p.kind, .bool p.on, .bool p.broken, .slice A p.cells.length c, .int .i64 p.count]) := fun v wx => (congrFun (congrFun (congrFun hGdef 0) v) wx).trans rfl
        have G1 : ∀ v wx, G 1 v wx = (v = .agg #[.string p.kind, .bool p.on, .bool p.broken, .slice AW5 (p.cells).length cW5, .int .i64 p.count]) := fun v wx => (congrFun (congrFun (congrFun hGdef 1) v) wx).trans rfl
        have G2 : ∀ v wx, G 2 v wx = (v = .bool true) := fun v wx => (congrFun (congrFun (congrFun hGdef 2) v) wx).trans rfl
        have G3 : ∀ v wx, G 3 v wx = (v = .bool true) := fun v wx => (congrFun (congrFun (congrFun hGdef 3) v) wx).trans rfl
        have G4 : ∀ v wx, G 4 v wx = (v = .agg #[.int .i64 0, .int .i64 (p.cells.length : Int), .string ⟨#[]⟩, .int .i64 0, .int .i64 0]) := fun v wx => (congrFun (congrFun (congrFun hGdef 4) v) wx).trans rfl
        have G5 : ∀ v wx, G 5 v wx = (v = .pointer (some ⟨W1.heap.size, 3, none⟩)) := fun v wx => (congrFun (congrFun (congrFun hGdef 5) v) wx).trans rfl
        have G6 : ∀ v wx, G 6 v wx = (v = .slice A p.cells.length c) := fun v wx => (congrFun (congrFun (congrFun hGdef 6) v) wx).trans rfl
        have G7 : ∀ v wx, G 7 v wx = (v = .int .i64 (p.cells.length : Int)) := fun v wx => (congrFun (congrFun (congrFun hGdef 7) v) wx).trans rfl
        have G8 : ∀ v wx, G 8 v wx = (v = .agg #[.int .i64 0, .int .i64 (p.cells.length : Int), .string ⟨#[]⟩, .int .i64 0, .int .i64 0]) := fun v wx => (congrFun (congrFun (congrFun hGdef 8) v) wx).trans rfl
        have G9 : ∀ v wx, G 9 v wx = (v = .bool true) := fun v wx => (congrFun (congrFun (congrFun hGdef 9) v) wx).trans rfl
        have G10 : ∀ v wx, G 10 v wx = (v = .bool true) := fun v wx => (congrFun (congrFun (congrFun hGdef 10) v) wx).trans rfl
        have G11 : ∀ v wx, G 11 v wx = (v = .bool true) := fun v wx => (congrFun (congrFun (congrFun hGdef 11) v) wx).trans rfl
        have G12 : ∀ v wx, G 12 v wx = (v = .pointer (some ⟨W9.heap.size, 3, none⟩)) := fun v wx => (congrFun (congrFun (congrFun hGdef 12) v) wx).trans rfl
        have G13 : ∀ v wx, G 13 v wx = (v = .slice AW9 (p.cells).length cW9) := fun v wx => (congrFun (congrFun (congrFun hGdef 13) v) wx).trans rfl
        have G14 : ∀ v wx, G 14 v wx = (v = .string (Pu.cellsT p.cells)) := fun v wx => (congrFun (congrFun (congrFun hGdef 14) v) wx).trans rfl
        have G15 : ∀ v wx, G 15 v wx = (v = .pointer (some ⟨W5.heap.size + 1, 2, none⟩)) := fun v wx => (congrFun (congrFun (congrFun hGdef 15) v) wx).trans rfl
        have G16 : ∀ v wx, G 16 v wx = (v = .string (Pu.cellsT p.cells)) := fun v wx => (congrFun (congrFun (congrFun hGdef 16) v) wx).trans rfl
        have G17 : ∀ v wx, G 17 v wx = (v = .bool true) := fun v wx => (congrFun (congrFun (congrFun hGdef 17) v) wx).trans rfl
        have G18 : ∀ v wx, G 18 v wx = (v = .bool true) := fun v wx => (congrFun (congrFun (congrFun hGdef 18) v) wx).trans rfl
        have G19 : ∀ v wx, G 19 v wx = (v = .bool true) := fun v wx => (congrFun (congrFun (congrFun hGdef 19) v) wx).trans rfl
        have G20 : ∀ v wx, G 20 v wx = (v = .pointer (some ⟨W1.heap.size, 3, none⟩)) := fun v wx => (congrFun (congrFun (congrFun hGdef 20) v) wx).trans rfl
        have G21 : ∀ v wx, G 21 v wx = (v = .slice A p.cells.length c) := fun v wx => (congrFun (congrFun (congrFun hGdef 21) v) wx).trans rfl
        have G22 : ∀ v wx, G 22 v wx = (v = .string (Pu.cellsT p.cells)) := fun v wx => (congrFun (congrFun (congrFun hGdef 22) v) wx).trans rfl
        have G23 : ∀ v wx, G 23 v wx = (v = .pointer (some ⟨W5.heap.size + 1, 2, none⟩)) := fun v wx => (congrFun (congrFun (congrFun hGdef 23) v) wx).trans rfl
        have G24 : ∀ v wx, G 24 v wx = (v = .string (Pu.cellsT p.cells)) := fun v wx => (congrFun (congrFun (congrFun hGdef 24) v) wx).trans rfl
        have G25 : ∀ v wx, G 25 v wx = (v = .bool true) := fun v wx => (congrFun (congrFun (congrFun hGdef 25) v) wx).trans rfl
        have G26 : ∀ v wx, G 26 v wx = (v = .bool true) := fun v wx => (congrFun (congrFun (congrFun hGdef 26) v) wx).trans rfl
        have G27 : ∀ v wx, G 27 v wx = (v = .bool true) := fun v wx => (congrFun (congrFun (congrFun hGdef 27) v) wx).trans rfl
        have Gn : ∀ j v wx, G (j + 28) v wx = True := fun j v wx => (congrFun (congrFun (congrFun hGdef _) v) wx).trans rfl
        clear hGdef
        have firm0 : ∀ j v, Firm [] (G j v) := by
          intro j v
          match j with
          | 0 => rw [show G 0 v = (fun wx => v = .agg #[.string p.kind, .bool p.on, .bool p.broken, .slice A p.cells.length c, .int .i64 p.count]) from funext (G0 v)]; exact firm_const _
          | 1 => rw [show G 1 v = (fun wx => v = .agg #[.string p.kind, .bool p.on, .bool p.broken, .slice AW5 (p.cells).length cW5, .int .i64 p.count]) from funext (G1 v)]; exact firm_const _
          | 2 => rw [show G 2 v = (fun wx => v = .bool true) from funext (G2 v)]; exact firm_const _
          | 3 => rw [show G 3 v = (fun wx => v = .bool true) from funext (G3 v)]; exact firm_const _
          | 4 => rw [show G 4 v = (fun wx => v = .agg #[.int .i64 0, .int .i64 (p.cells.length : Int), .string ⟨#[]⟩, .int .i64 0, .int .i64 0]) from funext (G4 v)]; exact firm_const _
          | 5 => rw [show G 5 v = (fun wx => v = .pointer (some ⟨W1.heap.size, 3, none⟩)) from funext (G5 v)]; exact firm_const _
          | 6 => rw [show G 6 v = (fun wx => v = .slice A p.cells.length c) from funext (G6 v)]; exact firm_const _
          | 7 => rw [show G 7 v = (fun wx => v = .int .i64 (p.cells.length : Int)) from funext (G7 v)]; exact firm_const _
          | 8 => rw [show G 8 v = (fun wx => v = .agg #[.int .i64 0, .int .i64 (p.cells.length : Int), .string ⟨#[]⟩, .int .i64 0, .int .i64 0]) from funext (G8 v)]; exact firm_const _
          | 9 => rw [show G 9 v = (fun wx => v = .bool true) from funext (G9 v)]; exact firm_const _
          | 10 => rw [show G 10 v = (fun wx => v = .bool true) from funext (G10 v)]; exact firm_const _
          | 11 => rw [show G 11 v = (fun wx => v = .bool true) from funext (G11 v)]; exact firm_const _
          | 12 => rw [show G 12 v = (fun wx => v = .pointer (some ⟨W9.heap.size, 3, none⟩)) from funext (G12 v)]; exact firm_const _
          | 13 => rw [show G 13 v = (fun wx => v = .slice AW9 (p.cells).length cW9) from funext (G13 v)]; exact firm_const _
          | 14 => rw [show G 14 v = (fun wx => v = .string (Pu.cellsT p.cells)) from funext (G14 v)]; exact firm_const _
          | 15 => rw [show G 15 v = (fun wx => v = .pointer (some ⟨W5.heap.size + 1, 2, none⟩)) from funext (G15 v)]; exact firm_const _
          | 16 => rw [show G 16 v = (fun wx => v = .string (Pu.cellsT p.cells)) from funext (G16 v)]; exact firm_const _
          | 17 => rw [show G 17 v = (fun wx => v = .bool true) from funext (G17 v)]; exact firm_const _
          | 18 => rw [show G 18 v = (fun wx => v = .bool true) from funext (G18 v)]; exact firm_const _
          | 19 => rw [show G 19 v = (fun wx => v = .bool true) from funext (G19 v)]; exact firm_const _
          | 20 => rw [show G 20 v = (fun wx => v = .pointer (some ⟨W1.heap.size, 3, none⟩)) from funext (G20 v)]; exact firm_const _
          | 21 => rw [show G 21 v = (fun wx => v = .slice A p.cells.length c) from funext (G21 v)]; exact firm_const _
          | 22 => rw [show G 22 v = (fun wx => v = .string (Pu.cellsT p.cells)) from funext (G22 v)]; exact firm_const _
          | 23 => rw [show G 23 v = (fun wx => v = .pointer (some ⟨W5.heap.size + 1, 2, none⟩)) from funext (G23 v)]; exact firm_const _
          | 24 => rw [show G 24 v = (fun wx => v = .string (Pu.cellsT p.cells)) from funext (G24 v)]; exact firm_const _
          | 25 => rw [show G 25 v = (fun wx => v = .bool true) from funext (G25 v)]; exact firm_const _
          | 26 => rw [show G 26 v = (fun wx => v = .bool true) from funext (G26 v)]; exact firm_const _
          | 27 => rw [show G 27 v = (fun wx => v = .bool true) from funext (G27 v)]; exact firm_const _
          | j + 28 => rw [show G (j + 28) v = (fun wx => True) from funext (Gn j v)]; exact firm_const _
        refine wp_region_abs W10.heap.size W10 [2, 57, 58, 59, 60, 61, 62, 63, 64, 65, 66, 67, 68, 69, 70, 71, 72, 73, 74, 75, 76, 77, 78, 79, 80, 81, 82, 83] (fun j => match j with | 0 => 57 | 1 => 58 | 2 => 59 | 3 => 60 | 4 => 61 | 5 => 62 | 6 => 63 | 7 => 64 | 8 => 65 | 9 => 66 | 10 => 67 | 11 => 68 | 12 => 69 | 13 => 70 | 14 => 71 | 15 => 72 | 16 => 73 | 17 => 74 | 18 => 75 | 19 => 76 | 20 => 77 | 21 => 78 | 22 => 79 | 23 => 80 | 24 => 81 | 25 => 82 | 26 => 83 | 27 => 2 | _ => 0) (fun j => match j with | 0 => [] | 1 => [] | 2 => [0, 1] | 3 => [0, 1, 2] | 4 => [0, 1, 2, 3] | 5 => [0, 1, 2, 3] | 6 => [0, 1, 2, 3, 5] | 7 => [0, 1, 2, 3, 5, 6] | 8 => [0, 1, 2, 3, 5, 6, 7] | 9 => [0, 1, 2, 3, 4, 5, 6, 7, 8] | 10 => [0, 1, 2, 3, 4, 5, 6, 7, 8, 9] | 11 => [0, 1, 2, 3, 4, 5, 6, 7, 8, 9, 10] | 12 => [0, 1, 2, 3, 4, 5, 6, 7, 8, 9, 10, 11] | 13 => [0, 1, 2, 3, 4, 5, 6, 7, 8, 9, 10, 11, 12] | 14 => [0, 1, 2, 3, 4, 5, 6, 7, 8, 9, 10, 11, 12, 13] | 15 => [0, 1, 2, 3, 4, 5, 6, 7, 8, 9, 10, 11] | 16 => [0, 1, 2, 3, 4, 5, 6, 7, 8, 9, 10, 11, 15] | 17 => [0, 1, 2, 3, 4, 5, 6, 7, 8, 9, 10, 11, 12, 13, 14, 15, 16] | 18 => [0, 1, 2, 3, 4, 5, 6, 7, 8, 9, 10, 11, 12, 13, 14, 15, 16, 17] | 19 => [0, 1, 2, 3, 4, 5, 6, 7, 8, 9, 10, 11, 12, 13, 14, 15, 16, 17, 18] | 20 => [0, 1, 2, 3, 4, 5, 6, 7, 8, 9, 10, 11, 12, 13, 14, 15, 16, 17, 18, 19] | 21 => [0, 1, 2, 3, 4, 5, 6, 7, 8, 9, 10, 11, 12, 13, 14, 15, 16, 17, 18, 19, 20] | 22 => [0, 1, 2, 3, 4, 5, 6, 7, 8, 9, 10, 11, 12, 13, 14, 15, 16, 17, 18, 19, 20, 21] | 23 => [0, 1, 2, 3, 4, 5, 6, 7, 8, 9, 10, 11, 12, 13, 14, 15, 16, 17, 18, 19] | 24 => [0, 1, 2, 3, 4, 5, 6, 7, 8, 9, 10, 11, 12, 13, 14, 15, 16, 17, 18, 19, 23] | 25 => [0, 1, 2, 3, 4, 5, 6, 7, 8, 9, 10, 11, 12, 13, 14, 15, 16, 17, 18, 19, 20, 21, 22, 23, 24] | 26 => [0, 1, 2, 3, 4, 5, 6, 7, 8, 9, 10, 11, 12, 13, 14, 15, 16, 17, 18, 19, 20, 21, 22, 23, 24, 25] | 27 => [0, 1, 2, 3, 4, 5, 6, 7, 8, 9, 10, 11, 12, 13, 14, 15, 16, 17, 18, 19, 20, 21, 22, 23, 24, 25, 26] | _ => []) G (fun j => match j with | 0 => [] | 1 => [] | 2 => [] | 3 => [] | 4 => [] | 5 => [] | 6 => [] | 7 => [] | 8 => [] | 9 => [] | 10 => [] | 11 => [] | 12 => [] | 13 => [] | 14 => [] | 15 => [] | 16 => [] | 17 => [] | 18 => [] | 19 => [] | 20 => [] | 21 => [] | 22 => [] | 23 => [] | 24 => [] | 25 => [] | 26 => [] | 27 => [] | _ => []) 84 (by kernel_rfl) (by kernel_rfl) rfl (by decide) h0inv ?firms ?stps ?fins
        case firms =>
          intro i j hj _ v
          match i with
          | 0 => exact firm0 j v
          | 1 => exact firm0 j v
          | 2 => exact firm0 j v
          | 3 => exact firm0 j v
          | 4 => exact firm0 j v
          | 5 => exact firm0 j v
          | 6 => exact firm0 j v
          | 7 => exact firm0 j v
          | 8 => exact firm0 j v
          | 9 => exact firm0 j v
          | 10 => exact firm0 j v
          | 11 => exact firm0 j v
          | 12 => exact firm0 j v
          | 13 => exact firm0 j v
          | 14 => exact firm0 j v
          | 15 => exact firm0 j v
          | 16 => exact firm0 j v
          | 17 => exact firm0 j v
          | 18 => exact firm0 j v
          | 19 => exact firm0 j v
          | 20 => exact firm0 j v
          | 21 => exact firm0 j v
          | 22 => exact firm0 j v
          | 23 => exact firm0 j v
          | 24 => exact firm0 j v
          | 25 => exact firm0 j v
          | 26 => exact firm0 j v
          | 27 => exact firm0 j v
          | i + 28 => exact firm0 j v
        case stps =>
          refine StepsFrom.cons ?ops_0 (StepsFrom.cons ?ops_1 (StepsFrom.cons ?ops_2 (StepsFrom.cons ?ops_3 (StepsFrom.cons ?ops_4 (StepsFrom.cons ?ops_5 (StepsFrom.cons ?ops_6 (StepsFrom.cons ?ops_7 (StepsFrom.cons ?ops_8 (StepsFrom.cons ?ops_9 (StepsFrom.cons ?ops_10 (StepsFrom.cons ?ops_11 (StepsFrom.cons ?ops_12 (StepsFrom.cons ?ops_13 (StepsFrom.cons ?ops_14 (StepsFrom.cons ?ops_15 (StepsFrom.cons ?ops_16 (StepsFrom.cons ?ops_17 (StepsFrom.cons ?ops_18 (StepsFrom.cons ?ops_19 (StepsFrom.cons ?ops_20 (StepsFrom.cons ?ops_21 (StepsFrom.cons ?ops_22 (StepsFrom.cons ?ops_23 (StepsFrom.cons ?ops_24 (StepsFrom.cons ?ops_25 (StepsFrom.cons ?ops_26 (StepsFrom.cons ?ops_27 (StepsFrom.nil))))))))))))))))))))))))))))
          case ops_0 =>
            intro vs wy b hin hout hb hdep K hK
            have t3 : b.tmps[3]? = some (.pointer (some ⟨W1.heap.size, 0, none⟩)) := (hout 3 (by decide)).trans rfl
            clear hin hout hdep
            replace hK : ∀ v w', Below W10.heap.size W10 w' → Moved [] wy w' → (fun (v : Value) (wx : World) => v = .agg #[.string p.kind, .bool p.on, .bool p.broken, .slice A p.cells.length c, .int .i64 p.count]) v w' → K (b.put (some 57) v) w' := fun v w' q1 q2 q3 => hK v w' q1 q2 (Eq.mpr (G0 _ _) q3)
            refine ⟨wanted_plain rfl, ?_⟩
            have KW : ∀ k : Nat, wy.cell? ⟨W1.heap.size, k, none⟩ = _ := fun k => hb.cell hzP
            go_simp
            exact hK _ _ hb (moved_refl _) rfl
          case ops_1 =>
            intro vs wy b hin hout hb hdep K hK
            have t5 : b.tmps[5]? = some (.pointer (some ⟨W5.heap.size, 0, none⟩)) := (hout 5 (by decide)).trans rfl
            clear hin hout hdep
            replace hK : ∀ v w', Below W10.heap.size W10 w' → Moved [] wy w' → (fun (v : Value) (wx : World) => v = .agg #[.string p.kind, .bool p.on, .bool p.broken, .slice AW5 (p.cells).length cW5, .int .i64 p.count]) v w' → K (b.put (some 58) v) w' := fun v w' q1 q2 q3 => hK v w' q1 q2 (Eq.mpr (G1 _ _) q3)
            refine ⟨wanted_plain rfl, ?_⟩
            have KW : ∀ k : Nat, wy.cell? ⟨W5.heap.size, k, none⟩ = _ := fun k => hb.cell hzQ
            go_simp
            exact hK _ _ hb (moved_refl _) rfl
          case ops_2 =>
            intro vs wy b hin hout hb hdep K hK
            have h0 : (fun (v : Value) (wx : World) => v = .agg #[.string p.kind, .bool p.on, .bool p.broken, .slice A p.cells.length c, .int .i64 p.count]) (vs 57) wy := by
              have h := hdep 0 (by decide)
              rw [G0] at h
              exact h
            dsimp only at h0
            have h1 : (fun (v : Value) (wx : World) => v = .agg #[.string p.kind, .bool p.on, .bool p.broken, .slice AW5 (p.cells).length cW5, .int .i64 p.count]) (vs 58) wy := by
              have h := hdep 1 (by decide)
              rw [G1] at h
              exact h
            dsimp only at h1
            have t57 := hin 57 (by decide)
            have t58 := hin 58 (by decide)
            clear hin hout hdep
            replace hK : ∀ v w', Below W10.heap.size W10 w' → Moved [] wy w' → (fun (v : Value) (wx : World) => v = .bool true) v w' → K (b.put (some 59) v) w' := fun v w' q1 q2 q3 => hK v w' q1 q2 (Eq.mpr (G2 _ _) q3)
            refine ⟨wanted_plain rfl, ?_⟩
            go_simp
            refine (iSameCore_c p p _ _ _ (RdL.below OP.out hb (Nat.le_refl _)) (RdL.below OQ.out hb (Nat.le_refl _))).mono ?_
            rintro e wz ⟨rfl, bT⟩
            rw [sameCore_refl]
            exact hK _ _ (below_then hb bT) (.inl bT) rfl
          case ops_3 =>
            intro vs wy b hin hout hb hdep K hK
            have h2 : (fun (v : Value) (wx : World) => v = .bool true) (vs 59) wy := by
              have h := hdep 2 (by decide)
              rw [G2] at h
              exact h
            dsimp only at h2
            have t59 := hin 59 (by decide)
            clear hin hout hdep
            replace hK : ∀ v w', Below W10.heap.size W10 w' → Moved [] wy w' → (fun (v : Value) (wx : World) => v = .bool true) v w' → K (b.put (some 60) v) w' := fun v w' q1 q2 q3 => hK v w' q1 q2 (Eq.mpr (G3 _ _) q3)
            refine ⟨wanted_plain rfl, ?_⟩
            go_simp
            exact hK _ _ hb (moved_refl _) rfl
          case ops_4 =>
            intro vs wy b hin hout hb hdep K hK
            have h3 : (fun (v : Value) (wx : World) => v = .bool true) (vs 60) wy := by
              have h := hdep 3 (by decide)
              rw [G3] at h
              exact h
            dsimp only at h3
            have t60 := hin 60 (by decide)
            have t10 : b.tmps[10]? = some (.pointer (some ⟨W9.heap.size + 1, 0, none⟩)) := (hout 10 (by decide)).trans rfl
            clear hin hout hdep
            replace hK : ∀ v w', Below W10.heap.size W10 w' → Moved [] wy w' → (fun (v : Value) (wx : World) => v = .agg #[.int .i64 0, .int .i64 (p.cells.length : Int), .string ⟨#[]⟩, .int .i64 0, .int .i64 0]) v w' → K (b.put (some 61) v) w' := fun v w' q1 q2 q3 => hK v w' q1 q2 (Eq.mpr (G4 _ _) q3)
            refine ⟨by simp [Region.wanted, yielded, t60, h3], ?_⟩
            have KW : ∀ k : Nat, wy.cell? ⟨W9.heap.size + 1, k, none⟩ = _ := fun k => hb.cell hzS
            go_simp
            exact hK _ _ hb (moved_refl _) rfl
          case ops_5 =>
            intro vs wy b hin hout hb hdep K hK
            have h3 : (fun (v : Value) (wx : World) => v = .bool true) (vs 60) wy := by
              have h := hdep 3 (by decide)
              rw [G3] at h
              exact h
            dsimp only at h3
            have t60 := hin 60 (by decide)
            have t3 : b.tmps[3]? = some (.pointer (some ⟨W1.heap.size, 0, none⟩)) := (hout 3 (by decide)).trans rfl
            clear hin hout hdep
            replace hK : ∀ v w', Below W10.heap.size W10 w' → Moved [] wy w' → (fun (v : Value) (wx : World) => v = .pointer (some ⟨W1.heap.size, 3, none⟩)) v w' → K (b.put (some 62) v) w' := fun v w' q1 q2 q3 => hK v w' q1 q2 (Eq.mpr (G5 _ _) q3)
            refine ⟨by simp [Region.wanted, yielded, t60, h3], ?_⟩
            go_simp
            exact hK _ _ hb (moved_refl _) rfl
          case ops_6 =>
            intro vs wy b hin hout hb hdep K hK
            have h5 : (fun (v : Value) (wx : World) => v = .pointer (some ⟨W1.heap.size, 3, none⟩)) (vs 62) wy := by
              have h := hdep 5 (by decide)
              rw [G5] at h
              exact h
            dsimp only at h5
            have h3 : (fun (v : Value) (wx : World) => v = .bool true) (vs 60) wy := by
              have h := hdep 3 (by decide)
              rw [G3] at h
              exact h
            dsimp only at h3
            have t60 := hin 60 (by decide)
            have t62 := hin 62 (by decide)
            clear hin hout hdep
            replace hK : ∀ v w', Below W10.heap.size W10 w' → Moved [] wy w' → (fun (v : Value) (wx : World) => v = .slice A p.cells.length c) v w' → K (b.put (some 63) v) w' := fun v w' q1 q2 q3 => hK v w' q1 q2 (Eq.mpr (G6 _ _) q3)
            refine ⟨by simp [Region.wanted, yielded, t60, h3], ?_⟩
            have KW : ∀ k : Nat, wy.cell? ⟨W1.heap.size, k, none⟩ = _ := fun k => hb.cell hzP
            go_simp
            exact hK _ _ hb (moved_refl _) rfl
          case ops_7 =>
            intro vs wy b hin hout hb hdep K hK
            have h6 : (fun (v : Value) (wx : World) => v = .slice A p.cells.length c) (vs 63) wy := by
              have h := hdep 6 (by decide)
              rw [G6] at h
              exact h
            dsimp only at h6
            have h3 : (fun (v : Value) (wx : World) => v = .bool true) (vs 60) wy := by
              have h := hdep 3 (by decide)
              rw [G3] at h
              exact h
            dsimp only at h3
            have t60 := hin 60 (by decide)
            have t63 := hin 63 (by decide)
            clear hin hout hdep
            replace hK : ∀ v w', Below W10.heap.size W10 w' → Moved [] wy w' → (fun (v : Value) (wx : World) => v = .int .i64 (p.cells.length : Int)) v w' → K (b.put (some 64) v) w' := fun v w' q1 q2 q3 => hK v w' q1 q2 (Eq.mpr (G7 _ _) q3)
            refine ⟨by simp [Region.wanted, yielded, t60, h3], ?_⟩
            go_simp
            exact hK _ _ hb (moved_refl _) rfl
          case ops_8 =>
            intro vs wy b hin hout hb hdep K hK
            have h7 : (fun (v : Value) (wx : World) => v = .int .i64 (p.cells.length : Int)) (vs 64) wy := by
              have h := hdep 7 (by decide)
              rw [G7] at h
              exact h
            dsimp only at h7
            have h3 : (fun (v : Value) (wx : World) => v = .bool true) (vs 60) wy := by
              have h := hdep 3 (by decide)
              rw [G3] at h
              exact h
            dsimp only at h3
            have t60 := hin 60 (by decide)
            have t64 := hin 64 (by decide)
            clear hin hout hdep
            replace hK : ∀ v w', Below W10.heap.size W10 w' → Moved [] wy w' → (fun (v : Value) (wx : World) => v = .agg #[.int .i64 0, .int .i64 (p.cells.length : Int), .string ⟨#[]⟩, .int .i64 0, .int .i64 0]) v w' → K (b.put (some 65) v) w' := fun v w' q1 q2 q3 => hK v w' q1 q2 (Eq.mpr (G8 _ _) q3)
            refine ⟨by simp [Region.wanted, yielded, t60, h3], ?_⟩
            go_simp
            exact hK _ _ hb (moved_refl _) rfl
          case ops_9 =>
            intro vs wy b hin hout hb hdep K hK
            have h4 : (fun (v : Value) (wx : World) => v = .agg #[.int .i64 0, .int .i64 (p.cells.length : Int), .string ⟨#[]⟩, .int .i64 0, .int .i64 0]) (vs 61) wy := by
              have h := hdep 4 (by decide)
              rw [G4] at h
              exact h
            dsimp only at h4
            have h8 : (fun (v : Value) (wx : World) => v = .agg #[.int .i64 0, .int .i64 (p.cells.length : Int), .string ⟨#[]⟩, .int .i64 0, .int .i64 0]) (vs 65) wy := by
              have h := hdep 8 (by decide)
              rw [G8] at h
              exact h
            dsimp only at h8
            have h3 : (fun (v : Value) (wx : World) => v = .bool true) (vs 60) wy := by
              have h := hdep 3 (by decide)
              rw [G3] at h
              exact h
            dsimp only at h3
            have t60 := hin 60 (by decide)
            have t61 := hin 61 (by decide)
            have t65 := hin 65 (by decide)
            clear hin hout hdep
            replace hK : ∀ v w', Below W10.heap.size W10 w' → Moved [] wy w' → (fun (v : Value) (wx : World) => v = .bool true) v w' → K (b.put (some 66) v) w' := fun v w' q1 q2 q3 => hK v w' q1 q2 (Eq.mpr (G9 _ _) q3)
            refine ⟨by simp [Region.wanted, yielded, t60, h3], ?_⟩
            go_simp
            exact hK _ _ hb (moved_refl _) rfl
          case ops_10 =>
            intro vs wy b hin hout hb hdep K hK
            have h3 : (fun (v : Value) (wx : World) => v = .bool true) (vs 60) wy := by
              have h := hdep 3 (by decide)
              rw [G3] at h
              exact h
            dsimp only at h3
            have h9 : (fun (v : Value) (wx : World) => v = .bool true) (vs 66) wy := by
              have h := hdep 9 (by decide)
              rw [G9] at h
              exact h
            dsimp only at h9
            have t60 := hin 60 (by decide)
            have t66 := hin 66 (by decide)
            clear hin hout hdep
            replace hK : ∀ v w', Below W10.heap.size W10 w' → Moved [] wy w' → (fun (v : Value) (wx : World) => v = .bool true) v w' → K (b.put (some 67) v) w' := fun v w' q1 q2 q3 => hK v w' q1 q2 (Eq.mpr (G10 _ _) q3)
            refine ⟨wanted_plain rfl, ?_⟩
            go_simp
            exact hK _ _ hb (moved_refl _) rfl
          case ops_11 =>
            intro vs wy b hin hout hb hdep K hK
            have h10 : (fun (v : Value) (wx : World) => v = .bool true) (vs 67) wy := by
              have h := hdep 10 (by decide)
              rw [G10] at h
              exact h
            dsimp only at h10
            have t67 := hin 67 (by decide)
            clear hin hout hdep
            replace hK : ∀ v w', Below W10.heap.size W10 w' → Moved [] wy w' → (fun (v : Value) (wx : World) => v = .bool true) v w' → K (b.put (some 68) v) w' := fun v w' q1 q2 q3 => hK v w' q1 q2 (Eq.mpr (G11 _ _) q3)
            refine ⟨wanted_plain rfl, ?_⟩
            go_simp
            exact hK _ _ hb (moved_refl _) rfl
          case ops_12 =>
            intro vs wy b hin hout hb hdep K hK
            have h11 : (fun (v : Value) (wx : World) => v = .bool true) (vs 68) wy := by
              have h := hdep 11 (by decide)
              rw [G11] at h
              exact h
            dsimp only at h11
            have t68 := hin 68 (by decide)
            have t9 : b.tmps[9]? = some (.pointer (some ⟨W9.heap.size, 0, none⟩)) := (hout 9 (by decide)).trans rfl
            clear hin hout hdep
            replace hK : ∀ v w', Below W10.heap.size W10 w' → Moved [] wy w' → (fun (v : Value) (wx : World) => v = .pointer (some ⟨W9.heap.size, 3, none⟩)) v w' → K (b.put (some 69) v) w' := fun v w' q1 q2 q3 => hK v w' q1 q2 (Eq.mpr (G12 _ _) q3)
            refine ⟨by simp [Region.wanted, yielded, t68, h11], ?_⟩
            go_simp
            exact hK _ _ hb (moved_refl _) rfl
          case ops_13 =>
            intro vs wy b hin hout hb hdep K hK
            have h12 : (fun (v : Value) (wx : World) => v = .pointer (some ⟨W9.heap.size, 3, none⟩)) (vs 69) wy := by
              have h := hdep 12 (by decide)
              rw [G12] at h
              exact h
            dsimp only at h12
            have h11 : (fun (v : Value) (wx : World) => v = .bool true) (vs 68) wy := by
              have h := hdep 11 (by decide)
              rw [G11] at h
              exact h
            dsimp only at h11
            have t68 := hin 68 (by decide)
            have t69 := hin 69 (by decide)
            clear hin hout hdep
            replace hK : ∀ v w', Below W10.heap.size W10 w' → Moved [] wy w' → (fun (v : Value) (wx : World) => v = .slice AW9 (p.cells).length cW9) v w' → K (b.put (some 70) v) w' := fun v w' q1 q2 q3 => hK v w' q1 q2 (Eq.mpr (G13 _ _) q3)
            refine ⟨by simp [Region.wanted, yielded, t68, h11], ?_⟩
            have KW : ∀ k : Nat, wy.cell? ⟨W9.heap.size, k, none⟩ = _ := fun k => hb.cell hzY
            go_simp
            exact hK _ _ hb (moved_refl _) rfl
          case ops_14 =>
            intro vs wy b hin hout hb hdep K hK
            have h13 : (fun (v : Value) (wx : World) => v = .slice AW9 (p.cells).length cW9) (vs 70) wy := by
              have h := hdep 13 (by decide)
              rw [G13] at h
              exact h
            dsimp only at h13
            have h11 : (fun (v : Value) (wx : World) => v = .bool true) (vs 68) wy := by
              have h := hdep 11 (by decide)
              rw [G11] at h
              exact h
            dsimp only at h11
            have t68 := hin 68 (by decide)
            have t70 := hin 70 (by decide)
            clear hin hout hdep
            replace hK : ∀ v w', Below W10.heap.size W10 w' → Moved [] wy w' → (fun (v : Value) (wx : World) => v = .string (Pu.cellsT p.cells)) v w' → K (b.put (some 71) v) w' := fun v w' q1 q2 q3 => hK v w' q1 q2 (Eq.mpr (G14 _ _) q3)
            refine ⟨by simp [Region.wanted, yielded, t68, h11], ?_⟩
            go_simp
            refine (iFormatCells_c _ p.cells _ (HT.out.below (below_then BW hb) hlT) ⟨RdL.below OY.out hb (Nat.le_refl _), HP.out.2.2.wf⟩).mono ?_
            rintro e wz ⟨rfl, bT⟩
            exact hK _ _ (below_then hb bT) (.inl bT) rfl
          case ops_15 =>
            intro vs wy b hin hout hb hdep K hK
            have h11 : (fun (v : Value) (wx : World) => v = .bool true) (vs 68) wy := by
              have h := hdep 11 (by decide)
              rw [G11] at h
              exact h
            dsimp only at h11
            have t68 := hin 68 (by decide)
            have t6 : b.tmps[6]? = some (.pointer (some ⟨W5.heap.size + 1, 0, none⟩)) := (hout 6 (by decide)).trans rfl
            clear hin hout hdep
            replace hK : ∀ v w', Below W10.heap.size W10 w' → Moved [] wy w' → (fun (v : Value) (wx : World) => v = .pointer (some ⟨W5.heap.size + 1, 2, none⟩)) v w' → K (b.put (some 72) v) w' := fun v w' q1 q2 q3 => hK v w' q1 q2 (Eq.mpr (G15 _ _) q3)
            refine ⟨by simp [Region.wanted, yielded, t68, h11], ?_⟩
            go_simp
            exact hK _ _ hb (moved_refl _) rfl
          case ops_16 =>
            intro vs wy b hin hout hb hdep K hK
            have h15 : (fun (v : Value) (wx : World) => v = .pointer (some ⟨W5.heap.size + 1, 2, none⟩)) (vs 72) wy := by
              have h := hdep 15 (by decide)
              rw [G15] at h
              exact h
            dsimp only at h15
            have h11 : (fun (v : Value) (wx : World) => v = .bool true) (vs 68) wy := by
              have h := hdep 11 (by decide)
              rw [G11] at h
              exact h
            dsimp only at h11
            have t68 := hin 68 (by decide)
            have t72 := hin 72 (by decide)
            clear hin hout hdep
            replace hK : ∀ v w', Below W10.heap.size W10 w' → Moved [] wy w' → (fun (v : Value) (wx : World) => v = .string (Pu.cellsT p.cells)) v w' → K (b.put (some 73) v) w' := fun v w' q1 q2 q3 => hK v w' q1 q2 (Eq.mpr (G16 _ _) q3)
            refine ⟨by simp [Region.wanted, yielded, t68, h11], ?_⟩
            have KW : ∀ k : Nat, wy.cell? ⟨W5.heap.size + 1, k, none⟩ = _ := fun k => hb.cell hzR
            go_simp
            exact hK _ _ hb (moved_refl _) rfl
          case ops_17 =>
            intro vs wy b hin hout hb hdep K hK
            have h14 : (fun (v : Value) (wx : World) => v = .string (Pu.cellsT p.cells)) (vs 71) wy := by
              have h := hdep 14 (by decide)
              rw [G14] at h
              exact h
            dsimp only at h14
            have h16 : (fun (v : Value) (wx : World) => v = .string (Pu.cellsT p.cells)) (vs 73) wy := by
              have h := hdep 16 (by decide)
              rw [G16] at h
              exact h
            dsimp only at h16
            have h11 : (fun (v : Value) (wx : World) => v = .bool true) (vs 68) wy := by
              have h := hdep 11 (by decide)
              rw [G11] at h
              exact h
            dsimp only at h11
            have t68 := hin 68 (by decide)
            have t71 := hin 71 (by decide)
            have t73 := hin 73 (by decide)
            clear hin hout hdep
            replace hK : ∀ v w', Below W10.heap.size W10 w' → Moved [] wy w' → (fun (v : Value) (wx : World) => v = .bool true) v w' → K (b.put (some 74) v) w' := fun v w' q1 q2 q3 => hK v w' q1 q2 (Eq.mpr (G17 _ _) q3)
            refine ⟨by simp [Region.wanted, yielded, t68, h11], ?_⟩
            go_simp
            exact hK _ _ hb (moved_refl _) rfl
          case ops_18 =>
            intro vs wy b hin hout hb hdep K hK
            have h11 : (fun (v : Value) (wx : World) => v = .bool true) (vs 68) wy := by
              have h := hdep 11 (by decide)
              rw [G11] at h
              exact h
            dsimp only at h11
            have h17 : (fun (v : Value) (wx : World) => v = .bool true) (vs 74) wy := by
              have h := hdep 17 (by decide)
              rw [G17] at h
              exact h
            dsimp only at h17
            have t68 := hin 68 (by decide)
            have t74 := hin 74 (by decide)
            clear hin hout hdep
            replace hK : ∀ v w', Below W10.heap.size W10 w' → Moved [] wy w' → (fun (v : Value) (wx : World) => v = .bool true) v w' → K (b.put (some 75) v) w' := fun v w' q1 q2 q3 => hK v w' q1 q2 (Eq.mpr (G18 _ _) q3)
            refine ⟨wanted_plain rfl, ?_⟩
            go_simp
            exact hK _ _ hb (moved_refl _) rfl
          case ops_19 =>
            intro vs wy b hin hout hb hdep K hK
            have h18 : (fun (v : Value) (wx : World) => v = .bool true) (vs 75) wy := by
              have h := hdep 18 (by decide)
              rw [G18] at h
              exact h
            dsimp only at h18
            have t75 := hin 75 (by decide)
            clear hin hout hdep
            replace hK : ∀ v w', Below W10.heap.size W10 w' → Moved [] wy w' → (fun (v : Value) (wx : World) => v = .bool true) v w' → K (b.put (some 76) v) w' := fun v w' q1 q2 q3 => hK v w' q1 q2 (Eq.mpr (G19 _ _) q3)
            refine ⟨wanted_plain rfl, ?_⟩
            go_simp
            exact hK _ _ hb (moved_refl _) rfl
          case ops_20 =>
            intro vs wy b hin hout hb hdep K hK
            have h19 : (fun (v : Value) (wx : World) => v = .bool true) (vs 76) wy := by
              have h := hdep 19 (by decide)
              rw [G19] at h
              exact h
            dsimp only at h19
            have t76 := hin 76 (by decide)
            have t3 : b.tmps[3]? = some (.pointer (some ⟨W1.heap.size, 0, none⟩)) := (hout 3 (by decide)).trans rfl
            clear hin hout hdep
            replace hK : ∀ v w', Below W10.heap.size W10 w' → Moved [] wy w' → (fun (v : Value) (wx : World) => v = .pointer (some ⟨W1.heap.size, 3, none⟩)) v w' → K (b.put (some 77) v) w' := fun v w' q1 q2 q3 => hK v w' q1 q2 (Eq.mpr (G20 _ _) q3)
            refine ⟨by simp [Region.wanted, yielded, t76, h19], ?_⟩
            go_simp
            exact hK _ _ hb (moved_refl _) rfl
          case ops_21 =>
            intro vs wy b hin hout hb hdep K hK
            have h20 : (fun (v : Value) (wx : World) => v = .pointer (some ⟨W1.heap.size, 3, none⟩)) (vs 77) wy := by
              have h := hdep 20 (by decide)
              rw [G20] at h
              exact h
            dsimp only at h20
            have h19 : (fun (v : Value) (wx : World) => v = .bool true) (vs 76) wy := by
              have h := hdep 19 (by decide)
              rw [G19] at h
              exact h
            dsimp only at h19
            have t76 := hin 76 (by decide)
            have t77 := hin 77 (by decide)
            clear hin hout hdep
            replace hK : ∀ v w', Below W10.heap.size W10 w' → Moved [] wy w' → (fun (v : Value) (wx : World) => v = .slice A p.cells.length c) v w' → K (b.put (some 78) v) w' := fun v w' q1 q2 q3 => hK v w' q1 q2 (Eq.mpr (G21 _ _) q3)
            refine ⟨by simp [Region.wanted, yielded, t76, h19], ?_⟩
            have KW : ∀ k : Nat, wy.cell? ⟨W1.heap.size, k, none⟩ = _ := fun k => hb.cell hzP
            go_simp
            exact hK _ _ hb (moved_refl _) rfl
          case ops_22 =>
            intro vs wy b hin hout hb hdep K hK
            have h21 : (fun (v : Value) (wx : World) => v = .slice A p.cells.length c) (vs 78) wy := by
              have h := hdep 21 (by decide)
              rw [G21] at h
              exact h
            dsimp only at h21
            have h19 : (fun (v : Value) (wx : World) => v = .bool true) (vs 76) wy := by
              have h := hdep 19 (by decide)
              rw [G19] at h
              exact h
            dsimp only at h19
            have t76 := hin 76 (by decide)
            have t78 := hin 78 (by decide)
            clear hin hout hdep
            replace hK : ∀ v w', Below W10.heap.size W10 w' → Moved [] wy w' → (fun (v : Value) (wx : World) => v = .string (Pu.cellsT p.cells)) v w' → K (b.put (some 79) v) w' := fun v w' q1 q2 q3 => hK v w' q1 q2 (Eq.mpr (G22 _ _) q3)
            refine ⟨by simp [Region.wanted, yielded, t76, h19], ?_⟩
            go_simp
            refine (iFormatCells_c _ p.cells _ (HT.out.below (below_then BW hb) hlT) ⟨RdL.below OP.out hb (Nat.le_refl _), HP.out.2.2.wf⟩).mono ?_
            rintro e wz ⟨rfl, bT⟩
            exact hK _ _ (below_then hb bT) (.inl bT) rfl
          case ops_23 =>
            intro vs wy b hin hout hb hdep K hK
            have h19 : (fun (v : Value) (wx : World) => v = .bool true) (vs 76) wy := by
              have h := hdep 19 (by decide)
              rw [G19] at h
              exact h
            dsimp only at h19
            have t76 := hin 76 (by decide)
            have t6 : b.tmps[6]? = some (.pointer (some ⟨W5.heap.size + 1, 0, none⟩)) := (hout 6 (by decide)).trans rfl
            clear hin hout hdep
            replace hK : ∀ v w', Below W10.heap.size W10 w' → Moved [] wy w' → (fun (v : Value) (wx : World) => v = .pointer (some ⟨W5.heap.size + 1, 2, none⟩)) v w' → K (b.put (some 80) v) w' := fun v w' q1 q2 q3 => hK v w' q1 q2 (Eq.mpr (G23 _ _) q3)
            refine ⟨by simp [Region.wanted, yielded, t76, h19], ?_⟩
            go_simp
            exact hK _ _ hb (moved_refl _) rfl
          case ops_24 =>
            intro vs wy b hin hout hb hdep K hK
            have h23 : (fun (v : Value) (wx : World) => v = .pointer (some ⟨W5.heap.size + 1, 2, none⟩)) (vs 80) wy := by
              have h := hdep 23 (by decide)
              rw [G23] at h
              exact h
            dsimp only at h23
            have h19 : (fun (v : Value) (wx : World) => v = .bool true) (vs 76) wy := by
              have h := hdep 19 (by decide)
              rw [G19] at h
              exact h
            dsimp only at h19
            have t76 := hin 76 (by decide)
            have t80 := hin 80 (by decide)
            clear hin hout hdep
            replace hK : ∀ v w', Below W10.heap.size W10 w' → Moved [] wy w' → (fun (v : Value) (wx : World) => v = .string (Pu.cellsT p.cells)) v w' → K (b.put (some 81) v) w' := fun v w' q1 q2 q3 => hK v w' q1 q2 (Eq.mpr (G24 _ _) q3)
            refine ⟨by simp [Region.wanted, yielded, t76, h19], ?_⟩
            have KW : ∀ k : Nat, wy.cell? ⟨W5.heap.size + 1, k, none⟩ = _ := fun k => hb.cell hzR
            go_simp
            exact hK _ _ hb (moved_refl _) rfl
          case ops_25 =>
            intro vs wy b hin hout hb hdep K hK
            have h22 : (fun (v : Value) (wx : World) => v = .string (Pu.cellsT p.cells)) (vs 79) wy := by
              have h := hdep 22 (by decide)
              rw [G22] at h
              exact h
            dsimp only at h22
            have h24 : (fun (v : Value) (wx : World) => v = .string (Pu.cellsT p.cells)) (vs 81) wy := by
              have h := hdep 24 (by decide)
              rw [G24] at h
              exact h
            dsimp only at h24
            have h19 : (fun (v : Value) (wx : World) => v = .bool true) (vs 76) wy := by
              have h := hdep 19 (by decide)
              rw [G19] at h
              exact h
            dsimp only at h19
            have t76 := hin 76 (by decide)
            have t79 := hin 79 (by decide)
            have t81 := hin 81 (by decide)
            clear hin hout hdep
            replace hK : ∀ v w', Below W10.heap.size W10 w' → Moved [] wy w' → (fun (v : Value) (wx : World) => v = .bool true) v w' → K (b.put (some 82) v) w' := fun v w' q1 q2 q3 => hK v w' q1 q2 (Eq.mpr (G25 _ _) q3)
            refine ⟨by simp [Region.wanted, yielded, t76, h19], ?_⟩
            go_simp
            exact hK _ _ hb (moved_refl _) rfl
          case ops_26 =>
            intro vs wy b hin hout hb hdep K hK
            have h19 : (fun (v : Value) (wx : World) => v = .bool true) (vs 76) wy := by
              have h := hdep 19 (by decide)
              rw [G19] at h
              exact h
            dsimp only at h19
            have h25 : (fun (v : Value) (wx : World) => v = .bool true) (vs 82) wy := by
              have h := hdep 25 (by decide)
              rw [G25] at h
              exact h
            dsimp only at h25
            have t76 := hin 76 (by decide)
            have t82 := hin 82 (by decide)
            clear hin hout hdep
            replace hK : ∀ v w', Below W10.heap.size W10 w' → Moved [] wy w' → (fun (v : Value) (wx : World) => v = .bool true) v w' → K (b.put (some 83) v) w' := fun v w' q1 q2 q3 => hK v w' q1 q2 (Eq.mpr (G26 _ _) q3)
            refine ⟨wanted_plain rfl, ?_⟩
            go_simp
            exact hK _ _ hb (moved_refl _) rfl
          case ops_27 =>
            intro vs wy b hin hout hb hdep K hK
            have h26 : (fun (v : Value) (wx : World) => v = .bool true) (vs 83) wy := by
              have h := hdep 26 (by decide)
              rw [G26] at h
              exact h
            dsimp only at h26
            have t83 := hin 83 (by decide)
            clear hin hout hdep
            replace hK : ∀ v w', Below W10.heap.size W10 w' → Moved [] wy w' → (fun (v : Value) (wx : World) => v = .bool true) v w' → K (b.put (some 2) v) w' := fun v w' q1 q2 q3 => hK v w' q1 q2 (Eq.mpr (G27 _ _) q3)
            refine ⟨wanted_plain rfl, ?_⟩
            go_simp
            exact hK _ _ hb (moved_refl _) rfl
        case fins =>
          intro vs wz b hin hbeq hb hall
          have f27 : (fun (v : Value) (wx : World) => v = .bool true) (vs 2) wz := by
            have h := hall 27 (by decide)
            rw [G27] at h
            exact h
          dsimp only at f27
          clear hall hin
          subst hbeq
          simp only [actAt, slots, List.foldl_cons, List.foldl_nil, List.setIfInBounds_toArray, List.set_cons_zero, List.set_cons_succ]
          go_wp2
          go_ret
          exact ⟨by first | rfl | (rw [f27]; rfl), below_then BW hb⟩
  · go_enter Tryz.func10, Tryz.ntmps10
    go_wp2_with fail
    refine (big_c _ _ _ H0.out).mono ?_; rintro e w' ⟨rfl, rfl⟩
    rw [hbig]
    go_wp2
    go_ret
    exact ⟨rfl, Below.refl _ _⟩

/-- The laid heap meets the condition. -/
theorem door_met (os : Os) (args : Array Value) : laidMetH Tryz.prog Rows.fnSaveLoadRow.laid ((World.laidAll Tryz.prog os Rows.fnSaveLoadRow.laid).forCall (fun _ _ => 0) ⟨#[], args, []⟩).memory := by
  rw [MakeChecks.laidMetH_plain _ _ _ (by kernel_rfl)]
  exact laidMet_laidAll _ (by kernel_rfl) (by kernel_rfl)

set_option maxRecDepth 100000 in
theorem lifted (os : Os) (started : os.Started) (H : Type) (enc : TypeId × Value → H) :
    ReturnsInHanded {} Tryz.checked os 10 .any (fun w args => (Rows.fnSaveLoadSpec.pre enc Tryz.prog Tryz.f10 [] false w args ∧ laidMetH Tryz.prog Rows.fnSaveLoadRow.laid w) ∧ sizedMet enc Tryz.prog Tryz.f10 (OpenSpec.ofChange Rows.fnSaveLoadSpec) false w args) (Rows.fnSaveLoadSpec.post enc Tryz.prog Tryz.f10 false true false false) := by
  refine wrapV (C := Tryz.checked) (X := fun w _ => laidMetH Tryz.prog Rows.fnSaveLoadRow.laid w) (fun _ _ _ hh h => h.of_heap hh) own started (by kernel_rfl) Tryz.func10
    (ChangeSpec.witness_shaped (enc := enc) (C := Tryz.checked) (os := os) (X := fun w _ => laidMetH Tryz.prog Rows.fnSaveLoadRow.laid w) false (World.laidAll Tryz.prog os Rows.fnSaveLoadRow.laid) #[.slice none 0 0] 8 (World.laidAll_os _ _ _) (World.shaped_of_ZipB (by kernel_rfl) (by kernel_rfl)) (by kernel_rfl) (by kernel_rfl) (by kernel_rfl) (door_met os _)) ?_
  intro W base args ds gs before hval0 hW hL hS
  have hval : ∀ (j : Nat) t v, Tryz.f10.params[j]? = some t → args[j]? = some v → Value.okWide Tryz.prog W .any base t v := hval0
  have hW' := hW
  obtain ⟨p, q, hA0, hV, rfl, hfz, hnd⟩ := hW
  have hA : DataW.TrodAll enc Tryz.prog W 0 (fun _ => true) true Tryz.f10.params.toList args.toList ds p := hA0
  rw [Tryz.params10] at hA hval
  obtain ⟨v0, vs0, d0, ds0, p0, q0, hargs, rfl, rfl, h0, r0⟩ := trodAll_cons hA
  obtain ⟨rfl, rfl, rfl⟩ := trodAll_nil r0
  obtain rfl : args = #[v0] := by cases args; simp_all
  obtain ⟨rfl, rfl⟩ := trodVars_none hV
  obtain ⟨a0, hv0⟩ := open_bytes (hval 0 55 v0 rfl rfl) h0
  refine (walk W (pow10_of (met_reads hL (by kernel_rfl) (.tail _ (.tail _ (.head _))))) (errsyn_of (met_reads hL (by kernel_rfl) (.tail _ (.tail _ (.tail _ (.tail _ (.tail _ (.head _)))))))) (maxc_of hS) v0 a0 hv0).mono fun e W' ⟨he, hg⟩ => ?_
  subst he
  exact ⟨_, rfl, law_postV (tb := 4) (by kernel_rfl) (by kernel_rfl) (by kernel_rfl) hW' hg rfl Tryz.underlying4 rfl rfl rfl⟩

theorem over : Rows.FnSaveLoadSaid :=
  OpenClaim.holds_of_wide 10 Tryz.f10 rfl rfl rfl rfl rfl rfl rfl ⟨rfl, rfl, rfl, rfl, rfl⟩ rfl rfl rfl rfl rfl (by kernel_rfl) Tryz.func10 (by kernel_rfl)
    (of_decide_eq_true (by kernel_rfl)) (by unfold Func.isWrapper; first | (rw [if_pos (by decide +kernel)]; kernel_rfl) | (rw [if_neg (by decide +kernel)]; exact ⟨rfl, rfl⟩))
    (fun os started H enc _ => lifted os started H enc)

/-- The statement: the tied card. -/
theorem proved : Rows.FnSaveLoadCardSaid :=
  Claim7.holds_tied_plain_at .later [] [.data, .data, .data, .data, .sentinel, .sentinel, .pinned] true (true, "15f444c23c93b2403839749698f01a757c47729f86feb889b0929fa11f9b21ff") true over (fun _ h => by cases h) (by kernel_rfl) (fun _ h => by cases h) fnSaveLoad_row_tie rfl ⟨rfl, rfl⟩ (by kernel_rfl) rfl
    (fun f fn hf hfn => by
      obtain rfl : 10 = f := Option.some.inj ((show Tryz.prog.funcNamed Rows.fnSaveLoadRow.func = some 10 by kernel_rfl).symm.trans hf)
      obtain rfl : Tryz.f10 = fn := Option.some.inj (Tryz.func10.symm.trans hfn)
      exact ⟨by kernel_rfl, fun j t ht => by
        rw [Tryz.params10] at ht
        have hm : t ∈ [55] := by simpa using Array.mem_of_getElem? ht
        have hall : ([55].all fun u => !Tryz.prog.wantsStandIn u) = true := by kernel_rfl
        exact (show Tryz.prog.wantsStandIn t = false by simpa using List.all_eq_true.1 hall t hm)⟩)
    (by kernel_rfl)
#print axioms proved
end Go.Proofs.YtllmcnmongaahaaGreatDoor.fnSaveLoad
