/- FnBreaks: for every input the law returns true, and its arguments read afterwards as they read before. No condition besides those of the statement itself. -/
import Derived.Test.YtllmcnmongaahaaGreatDoorM0
import Derived.Test.YtllmcnmongaahaaGreatDoorCards
import Derived.Test.YtllmcnmongaahaaGreatDoorTie
import Derived.LaidMore
import Derived.SevenTiedAt
import Derived.Stop.Joined
import Derived.Lay
import Derived.Test.YtllmcnmongaahaaGreatDoorM1
import Derived.Test.YtllmcnmongaahaaGreatDoorM3
import Derived.Test.YtllmcnmongaahaaGreatDoorM6
import Derived.ShutString
namespace Go.Proofs.YtllmcnmongaahaaGreatDoor.fnBreaks
open Go.ChangeShapes Go.WideShapes Go.ChangeAt Go.RowKit
set_option maxRecDepth 100000
open Go.ChangeMaps (open_string shut_string)
set_option linter.unusedVariables false

theorem own : ownKnob Tryz.prog.godebug = none := by kernel_rfl

set_option maxHeartbeats 8000000 in
/-- The walk: the Go text returns true. -/
theorem walk (w : World) (hT : Pow10 w) (hE : ErrSyn w) (hM : MaxC w) (v0 : Value) (a0 : List UInt8) (hv0 : RdL w 1 byteEn v0 a0) :
    Calls Tryz.prog 8 #[v0] w fun e w' => e = .returned (.bool true) ∧ Below w.heap.size w w' := by
  have hlM := hM.lt
  have hlT := hT.lt
  have hlE := hE.lt
  have HM := hide hM
  have HT := hide hT
  have HE := hide hE
  have H0 := hide hv0
  clear hv0 hM hT hE
  rcases hbig : decide (4096 < a0.length) with _ | _
  · have hl : a0.length ≤ 4096 := by simpa using hbig
    go_enter Tryz.func8, Tryz.ntmps8
    go_wp2_with fail
    refine (big_c _ _ _ H0.out).mono ?_; rintro e w' ⟨rfl, rfl⟩
    rw [hbig]
    go_wp2_with fail
    refine (drawCallCore_c _ _ _ H0.out hl).mono ?_; rintro e W1 ⟨p, s, x, rfl, o1, hp, hx, BW⟩
    obtain ⟨A, c, rfl, _, _, _⟩ := RdL.open_ o1
    have HP := hide hp
    have HX := hide hx
    clear hp hx hbig
    unfold coreV callV
    have hws : CallD.wf (Pu.plainC Pu.mStart) := ⟨by decide, by decide, by decide, by decide⟩
    replace hws := hide hws
    have hts : (Pu.plainC Pu.mStart).text.size ≤ 1048576 := by decide
    replace hts := hide hts
    obtain ⟨⟨⟨qk, qo, qb, ql, qn⟩, ⟨qc, qv, qt, qw, qh⟩⟩, HR⟩ : ∃ R : Pu.CoreD × Pu.ReplyD, Hid (Pu.callF p (Pu.plainC Pu.mStart) = R) := ⟨_, rfl⟩
    rcases hcp : Pu.coreB p with _ | _
    · replace hcp := hide hcp
      have OP := hide o1
      clear o1
      obtain ⟨W2, hW2⟩ : ∃ W, Hid ((W1.alloc (.cells #[.string p.kind, .bool p.on, .bool p.broken, .slice A p.cells.length c, .int .i64 p.count] 31 : Obj)).alloc (.cells #[.string x.method, .string x.key, .int .i64 x.value, .string x.text] 37 : Obj) = W) := ⟨_, rfl⟩
      have b : Below W1.heap.size W1 W2 := by rw [← hW2.out]; exact below_alloc (below_alloc (Below.refl _ _) _) _
      have OP := hide (show RdL W2 2 cellEn (.slice A p.cells.length c) p.cells from RdL.below OP.out b (Nat.le_refl _))
      have BW := below_then BW b
      have RP := hide (show W2.heap[W1.heap.size]? = some (.cells #[.string p.kind, .bool p.on, .bool p.broken, .slice A p.cells.length c, .int .i64 p.count] 31 (0, 0) : Obj) by rw [← hW2.out]; exact heap_old (by simp) (heap_new rfl))
      have RX := hide (show W2.heap[W1.heap.size + 1]? = some (.cells #[.string x.method, .string x.key, .int .i64 x.value, .string x.text] 37 (0, 0) : Obj) by rw [← hW2.out]; exact heap_new (by simp))
      have EP := hide (show ((W1.alloc (.cells #[.string p.kind, .bool p.on, .bool p.broken, .slice A p.cells.length c, .int .i64 p.count] 31 : Obj)).alloc (.cells #[.string x.method, .string x.key, .int .i64 x.value, .string x.text] 37 : Obj)).heap[W1.heap.size]? = some (.cells #[.string p.kind, .bool p.on, .bool p.broken, .slice A p.cells.length c, .int .i64 p.count] 31 (0, 0) : Obj) by rw [hW2.out]; exact RP.out)
      obtain ⟨_, _, _, _, _, _⟩ := five_cells EP.out
      have EX := hide (show ((W1.alloc (.cells #[.string p.kind, .bool p.on, .bool p.broken, .slice A p.cells.length c, .int .i64 p.count] 31 : Obj)).alloc (.cells #[.string x.method, .string x.key, .int .i64 x.value, .string x.text] 37 : Obj)).heap[W1.heap.size + 1]? = some (.cells #[.string x.method, .string x.key, .int .i64 x.value, .string x.text] 37 (0, 0) : Obj) by rw [hW2.out]; exact RX.out)
      obtain ⟨_, _, _, _, _⟩ := four_cells EX.out
      obtain ⟨_, _, _, _, _, _⟩ := five_cells RP.out
      obtain ⟨_, _, _, _, _⟩ := four_cells RX.out
      go_wp2_with fail
      rw [hW2.out]
      refine (iCallCore_x p (Pu.plainC Pu.mStart) _ _ qk qt qo qb ql qn qc qv qw qh (HM.out.below BW hlM) (HT.out.below BW hlT) (HE.out.below BW hlE) HP.out.wf hws.out ⟨OP.out, HP.out.2.2.wf⟩ (by have := HP.out.2.2.1; omega) hts.out HR).mono ?_; rintro e W3 ⟨AW3, cW3, rfl, o5, b⟩
      have RP := hide (show W3.heap[W1.heap.size]? = some (.cells #[.string p.kind, .bool p.on, .bool p.broken, .slice A p.cells.length c, .int .i64 p.count] 31 (0, 0) : Obj) from row_on b RP.out)
      have RX := hide (show W3.heap[W1.heap.size + 1]? = some (.cells #[.string x.method, .string x.key, .int .i64 x.value, .string x.text] 37 (0, 0) : Obj) from row_on b RX.out)
      have OP := hide (show RdL W3 2 cellEn (.slice A p.cells.length c) p.cells from RdL.below OP.out b (Nat.le_refl _))
      have BW := below_then BW b
      have OQ := hide (show RdL W3 2 cellEn (.slice AW3 (ql).length cW3) (ql) from o5.rd (fun _ => rfl))
      clear o5
      obtain ⟨W4, hW4⟩ : ∃ W, Hid ((W3.alloc (.cells #[.string qk, .bool qo, .bool qb, .slice AW3 (ql).length cW3, .int .i64 qn] 31 : Obj)).alloc (.cells #[.int .i64 qc, .int .i64 qv, .string qt, .int .i64 qw, .int .i64 qh] 33 : Obj) = W) := ⟨_, rfl⟩
      have b : Below W3.heap.size W3 W4 := by rw [← hW4.out]; exact below_alloc (below_alloc (Below.refl _ _) _) _
      have RP := hide (show W4.heap[W1.heap.size]? = some (.cells #[.string p.kind, .bool p.on, .bool p.broken, .slice A p.cells.length c, .int .i64 p.count] 31 (0, 0) : Obj) from row_on b RP.out)
      have RX := hide (show W4.heap[W1.heap.size + 1]? = some (.cells #[.string x.method, .string x.key, .int .i64 x.value, .string x.text] 37 (0, 0) : Obj) from row_on b RX.out)
      have OP := hide (show RdL W4 2 cellEn (.slice A p.cells.length c) p.cells from RdL.below OP.out b (Nat.le_refl _))
      have OQ := hide (show RdL W4 2 cellEn (.slice AW3 (ql).length cW3) ql from RdL.below OQ.out b (Nat.le_refl _))
      have BW := below_then BW b
      have RQ := hide (show W4.heap[W3.heap.size]? = some (.cells #[.string qk, .bool qo, .bool qb, .slice AW3 (ql).length cW3, .int .i64 qn] 31 (0, 0) : Obj) by rw [← hW4.out]; exact heap_old (by simp) (heap_new rfl))
      have RR := hide (show W4.heap[W3.heap.size + 1]? = some (.cells #[.int .i64 qc, .int .i64 qv, .string qt, .int .i64 qw, .int .i64 qh] 33 (0, 0) : Obj) by rw [← hW4.out]; exact heap_new (by simp))
      have EP := hide (show ((W3.alloc (.cells #[.string qk, .bool qo, .bool qb, .slice AW3 (ql).length cW3, .int .i64 qn] 31 : Obj)).alloc (.cells #[.int .i64 qc, .int .i64 qv, .string qt, .int .i64 qw, .int .i64 qh] 33 : Obj)).heap[W1.heap.size]? = some (.cells #[.string p.kind, .bool p.on, .bool p.broken, .slice A p.cells.length c, .int .i64 p.count] 31 (0, 0) : Obj) by rw [hW4.out]; exact RP.out)
      obtain ⟨_, _, _, _, _, _⟩ := five_cells EP.out
      have EX := hide (show ((W3.alloc (.cells #[.string qk, .bool qo, .bool qb, .slice AW3 (ql).length cW3, .int .i64 qn] 31 : Obj)).alloc (.cells #[.int .i64 qc, .int .i64 qv, .string qt, .int .i64 qw, .int .i64 qh] 33 : Obj)).heap[W1.heap.size + 1]? = some (.cells #[.string x.method, .string x.key, .int .i64 x.value, .string x.text] 37 (0, 0) : Obj) by rw [hW4.out]; exact RX.out)
      obtain ⟨_, _, _, _, _⟩ := four_cells EX.out
      have EQ := hide (show ((W3.alloc (.cells #[.string qk, .bool qo, .bool qb, .slice AW3 (ql).length cW3, .int .i64 qn] 31 : Obj)).alloc (.cells #[.int .i64 qc, .int .i64 qv, .string qt, .int .i64 qw, .int .i64 qh] 33 : Obj)).heap[W3.heap.size]? = some (.cells #[.string qk, .bool qo, .bool qb, .slice AW3 (ql).length cW3, .int .i64 qn] 31 (0, 0) : Obj) by rw [hW4.out]; exact RQ.out)
      obtain ⟨_, _, _, _, _, _⟩ := five_cells EQ.out
      have ER := hide (show ((W3.alloc (.cells #[.string qk, .bool qo, .bool qb, .slice AW3 (ql).length cW3, .int .i64 qn] 31 : Obj)).alloc (.cells #[.int .i64 qc, .int .i64 qv, .string qt, .int .i64 qw, .int .i64 qh] 33 : Obj)).heap[W3.heap.size + 1]? = some (.cells #[.int .i64 qc, .int .i64 qv, .string qt, .int .i64 qw, .int .i64 qh] 33 (0, 0) : Obj) by rw [hW4.out]; exact RR.out)
      obtain ⟨_, _, _, _, _, _⟩ := five_cells ER.out
      obtain ⟨_, _, _, _, _, _⟩ := five_cells RP.out
      obtain ⟨_, _, _, _, _⟩ := four_cells RX.out
      obtain ⟨_, _, _, _, _, _⟩ := five_cells RQ.out
      obtain ⟨_, _, _, _, _, _⟩ := five_cells RR.out
      go_upto_region 5 with fail
      rw [hW4.out]
      go_cut [28] from 11 (fun r wx => r = .bool false ∧ Below W4.heap.size W4 wx)
      case first =>
        have hzP : W1.heap.size < W4.heap.size := (Array.getElem?_eq_some_iff.1 RP.out).1
        have K0 : Below W4.heap.size W4 W4 := Below.refl _ _
        have KD : ∀ w' : World, Below W4.heap.size W4 w' → Below W4.heap.size W4 w'.drew := fun _ h => h.drew
        go_region_held3 (fun w' => Below W4.heap.size W4 w' ∧ w'.cell? ⟨W1.heap.size, 0, none⟩ = some (.string p.kind) ∧ w'.cell? ⟨W1.heap.size, 1, none⟩ = some (.bool p.on) ∧ w'.cell? ⟨W1.heap.size, 2, none⟩ = some (.bool p.broken) ∧ w'.cell? ⟨W1.heap.size, 3, none⟩ = some (.slice A p.cells.length c) ∧ w'.cell? ⟨W1.heap.size, 4, none⟩ = some (.int .i64 p.count)) (go_keep)
          (first
            | (go_at_call 42;
                refine (iIsCore_c p _ _ HP.out.wf ⟨RdL.below OP.out (And.left (by assumption)) (Nat.le_refl _), HP.out.2.2.wf⟩).mono ?_;
                rintro e WI0 ⟨rfl, bI⟩;
                rw [hcp.out];
                have KWWI0 : Below W4.heap.size W4 WI0 := below_then (And.left (by assumption)) bI;
                have KWI00 : ∀ k : Nat, WI0.cell? ⟨W1.heap.size, k, none⟩ = _ := fun k => bI.cell (Nat.lt_of_lt_of_le hzP (Below.size (And.left (by assumption)))))
            | (go_at_call 47;
                refine (sIsCore_c p _ _ ⟨RdL.below OP.out (And.left (by assumption)) (Nat.le_refl _), HP.out.2.2.wf⟩).mono ?_;
                rintro e WI1 ⟨rfl, bI⟩;
                rw [hcp.out];
                have KWWI1 : Below W4.heap.size W4 WI1 := below_then (And.left (by assumption)) bI;
                have KWI10 : ∀ k : Nat, WI1.cell? ⟨W1.heap.size, k, none⟩ = _ := fun k => bI.cell (Nat.lt_of_lt_of_le hzP (Below.size (And.left (by assumption))))))
        all_goals
          go_wp2_with fail
          go_meet
          exact ⟨rfl, by first | exact KWWI0 | exact KWWI1⟩
      case rest =>
      obtain ⟨rfl, b⟩ := hcut
      obtain ⟨W5, hxW5⟩ : ∃ W, wc = W := ⟨_, rfl⟩
      rw [hxW5] at b ⊢
      clear hxW5
      have RP := hide (show W5.heap[W1.heap.size]? = some (.cells #[.string p.kind, .bool p.on, .bool p.broken, .slice A p.cells.length c, .int .i64 p.count] 31 (0, 0) : Obj) from row_on b RP.out)
      have RX := hide (show W5.heap[W1.heap.size + 1]? = some (.cells #[.string x.method, .string x.key, .int .i64 x.value, .string x.text] 37 (0, 0) : Obj) from row_on b RX.out)
      have RQ := hide (show W5.heap[W3.heap.size]? = some (.cells #[.string qk, .bool qo, .bool qb, .slice AW3 (ql).length cW3, .int .i64 qn] 31 (0, 0) : Obj) from row_on b RQ.out)
      have RR := hide (show W5.heap[W3.heap.size + 1]? = some (.cells #[.int .i64 qc, .int .i64 qv, .string qt, .int .i64 qw, .int .i64 qh] 33 (0, 0) : Obj) from row_on b RR.out)
      have OP := hide (show RdL W5 2 cellEn (.slice A p.cells.length c) p.cells from RdL.below OP.out b (Nat.le_refl _))
      have OQ := hide (show RdL W5 2 cellEn (.slice AW3 (ql).length cW3) ql from RdL.below OQ.out b (Nat.le_refl _))
      have BW := below_then BW b
      obtain ⟨_, _, _, _, _, _⟩ := five_cells RP.out
      obtain ⟨_, _, _, _, _⟩ := four_cells RX.out
      obtain ⟨_, _, _, _, _, _⟩ := five_cells RQ.out
      obtain ⟨_, _, _, _, _, _⟩ := five_cells RR.out
      go_wp2_with fail
      refine (iIsCore_c p _ _ HP.out.wf ⟨OP.out, HP.out.2.2.wf⟩).mono ?_; rintro e W6 ⟨rfl, b⟩
      have RP := hide (show W6.heap[W1.heap.size]? = some (.cells #[.string p.kind, .bool p.on, .bool p.broken, .slice A p.cells.length c, .int .i64 p.count] 31 (0, 0) : Obj) from row_on b RP.out)
      have RX := hide (show W6.heap[W1.heap.size + 1]? = some (.cells #[.string x.method, .string x.key, .int .i64 x.value, .string x.text] 37 (0, 0) : Obj) from row_on b RX.out)
      have RQ := hide (show W6.heap[W3.heap.size]? = some (.cells #[.string qk, .bool qo, .bool qb, .slice AW3 (ql).length cW3, .int .i64 qn] 31 (0, 0) : Obj) from row_on b RQ.out)
      have RR := hide (show W6.heap[W3.heap.size + 1]? = some (.cells #[.int .i64 qc, .int .i64 qv, .string qt, .int .i64 qw, .int .i64 qh] 33 (0, 0) : Obj) from row_on b RR.out)
      have OP := hide (show RdL W6 2 cellEn (.slice A p.cells.length c) p.cells from RdL.below OP.out b (Nat.le_refl _))
      have OQ := hide (show RdL W6 2 cellEn (.slice AW3 (ql).length cW3) ql from RdL.below OQ.out b (Nat.le_refl _))
      have BW := below_then BW b
      rw [hcp.out]
      obtain ⟨_, _, _, _, _, _⟩ := five_cells RP.out
      obtain ⟨_, _, _, _, _⟩ := four_cells RX.out
      obtain ⟨_, _, _, _, _, _⟩ := five_cells RQ.out
      obtain ⟨_, _, _, _, _, _⟩ := five_cells RR.out
      go_wp2
      go_ret
      first | exact ⟨rfl, BW⟩ | exact ⟨rfl, below_drewN BW _⟩
    · replace hcp := hide hcp
      have hgd := Pu.callF_good (x := Pu.plainC Pu.mStart) hcp.out
      rw [HR.out] at hgd
      obtain ⟨hq1, hq2, hq3⟩ := hgd
      dsimp only at hq1 hq2 hq3
      subst hq2
      replace hq1 := hide hq1
      have hql := (good_of hq1.out).2.2.2
      clear hq3
      have hwq : CoreD.wf ⟨p.kind, qo, qb, ql, qn⟩ := ⟨HP.out.wf.1, WalkArith.wf_i64 (by have := (good_of hq1.out).2; omega)⟩
      replace hwq := hide hwq
      have hbr := @Pu.breaks1 p hcp.out
      rw [HR.out] at hbr
      dsimp only at hbr
      replace hbr := hide hbr
      have OP := hide o1
      clear o1
      obtain ⟨W2, hW2⟩ : ∃ W, Hid ((W1.alloc (.cells #[.string p.kind, .bool p.on, .bool p.broken, .slice A p.cells.length c, .int .i64 p.count] 31 : Obj)).alloc (.cells #[.string x.method, .string x.key, .int .i64 x.value, .string x.text] 37 : Obj) = W) := ⟨_, rfl⟩
      have b : Below W1.heap.size W1 W2 := by rw [← hW2.out]; exact below_alloc (below_alloc (Below.refl _ _) _) _
      have OP := hide (show RdL W2 2 cellEn (.slice A p.cells.length c) p.cells from RdL.below OP.out b (Nat.le_refl _))
      have BW := below_then BW b
      have RP := hide (show W2.heap[W1.heap.size]? = some (.cells #[.string p.kind, .bool p.on, .bool p.broken, .slice A p.cells.length c, .int .i64 p.count] 31 (0, 0) : Obj) by rw [← hW2.out]; exact heap_old (by simp) (heap_new rfl))
      have RX := hide (show W2.heap[W1.heap.size + 1]? = some (.cells #[.string x.method, .string x.key, .int .i64 x.value, .string x.text] 37 (0, 0) : Obj) by rw [← hW2.out]; exact heap_new (by simp))
      have EP := hide (show ((W1.alloc (.cells #[.string p.kind, .bool p.on, .bool p.broken, .slice A p.cells.length c, .int .i64 p.count] 31 : Obj)).alloc (.cells #[.string x.method, .string x.key, .int .i64 x.value, .string x.text] 37 : Obj)).heap[W1.heap.size]? = some (.cells #[.string p.kind, .bool p.on, .bool p.broken, .slice A p.cells.length c, .int .i64 p.count] 31 (0, 0) : Obj) by rw [hW2.out]; exact RP.out)
      obtain ⟨_, _, _, _, _, _⟩ := five_cells EP.out
      have EX := hide (show ((W1.alloc (.cells #[.string p.kind, .bool p.on, .bool p.broken, .slice A p.cells.length c, .int .i64 p.count] 31 : Obj)).alloc (.cells #[.string x.method, .string x.key, .int .i64 x.value, .string x.text] 37 : Obj)).heap[W1.heap.size + 1]? = some (.cells #[.string x.method, .string x.key, .int .i64 x.value, .string x.text] 37 (0, 0) : Obj) by rw [hW2.out]; exact RX.out)
      obtain ⟨_, _, _, _, _⟩ := four_cells EX.out
      obtain ⟨_, _, _, _, _, _⟩ := five_cells RP.out
      obtain ⟨_, _, _, _, _⟩ := four_cells RX.out
      go_wp2_with fail
      rw [hW2.out]
      refine (iCallCore_x p (Pu.plainC Pu.mStart) _ _ p.kind qt qo qb ql qn qc qv qw qh (HM.out.below BW hlM) (HT.out.below BW hlT) (HE.out.below BW hlE) HP.out.wf hws.out ⟨OP.out, HP.out.2.2.wf⟩ (by have := HP.out.2.2.1; omega) hts.out HR).mono ?_; rintro e W3 ⟨AW3, cW3, rfl, o5, b⟩
      have RP := hide (show W3.heap[W1.heap.size]? = some (.cells #[.string p.kind, .bool p.on, .bool p.broken, .slice A p.cells.length c, .int .i64 p.count] 31 (0, 0) : Obj) from row_on b RP.out)
      have RX := hide (show W3.heap[W1.heap.size + 1]? = some (.cells #[.string x.method, .string x.key, .int .i64 x.value, .string x.text] 37 (0, 0) : Obj) from row_on b RX.out)
      have OP := hide (show RdL W3 2 cellEn (.slice A p.cells.length c) p.cells from RdL.below OP.out b (Nat.le_refl _))
      have BW := below_then BW b
      have OQ := hide (show RdL W3 2 cellEn (.slice AW3 (ql).length cW3) (ql) from o5.rd (fun _ => rfl))
      clear o5
      obtain ⟨W4, hW4⟩ : ∃ W, Hid ((W3.alloc (.cells #[.string p.kind, .bool qo, .bool qb, .slice AW3 (ql).length cW3, .int .i64 qn] 31 : Obj)).alloc (.cells #[.int .i64 qc, .int .i64 qv, .string qt, .int .i64 qw, .int .i64 qh] 33 : Obj) = W) := ⟨_, rfl⟩
      have b : Below W3.heap.size W3 W4 := by rw [← hW4.out]; exact below_alloc (below_alloc (Below.refl _ _) _) _
      have RP := hide (show W4.heap[W1.heap.size]? = some (.cells #[.string p.kind, .bool p.on, .bool p.broken, .slice A p.cells.length c, .int .i64 p.count] 31 (0, 0) : Obj) from row_on b RP.out)
      have RX := hide (show W4.heap[W1.heap.size + 1]? = some (.cells #[.string x.method, .string x.key, .int .i64 x.value, .string x.text] 37 (0, 0) : Obj) from row_on b RX.out)
      have OP := hide (show RdL W4 2 cellEn (.slice A p.cells.length c) p.cells from RdL.below OP.out b (Nat.le_refl _))
      have OQ := hide (show RdL W4 2 cellEn (.slice AW3 (ql).length cW3) ql from RdL.below OQ.out b (Nat.le_refl _))
      have BW := below_then BW b
      have RQ := hide (show W4.heap[W3.heap.size]? = some (.cells #[.string p.kind, .bool qo, .bool qb, .slice AW3 (ql).length cW3, .int .i64 qn] 31 (0, 0) : Obj) by rw [← hW4.out]; exact heap_old (by simp) (heap_new rfl))
      have RR := hide (show W4.heap[W3.heap.size + 1]? = some (.cells #[.int .i64 qc, .int .i64 qv, .string qt, .int .i64 qw, .int .i64 qh] 33 (0, 0) : Obj) by rw [← hW4.out]; exact heap_new (by simp))
      have EP := hide (show ((W3.alloc (.cells #[.string p.kind, .bool qo, .bool qb, .slice AW3 (ql).length cW3, .int .i64 qn] 31 : Obj)).alloc (.cells #[.int .i64 qc, .int .i64 qv, .string qt, .int .i64 qw, .int .i64 qh] 33 : Obj)).heap[W1.heap.size]? = some (.cells #[.string p.kind, .bool p.on, .bool p.broken, .slice A p.cells.length c, .int .i64 p.count] 31 (0, 0) : Obj) by rw [hW4.out]; exact RP.out)
      obtain ⟨_, _, _, _, _, _⟩ := five_cells EP.out
      have EX := hide (show ((W3.alloc (.cells #[.string p.kind, .bool qo, .bool qb, .slice AW3 (ql).length cW3, .int .i64 qn] 31 : Obj)).alloc (.cells #[.int .i64 qc, .int .i64 qv, .string qt, .int .i64 qw, .int .i64 qh] 33 : Obj)).heap[W1.heap.size + 1]? = some (.cells #[.string x.method, .string x.key, .int .i64 x.value, .string x.text] 37 (0, 0) : Obj) by rw [hW4.out]; exact RX.out)
      obtain ⟨_, _, _, _, _⟩ := four_cells EX.out
      have EQ := hide (show ((W3.alloc (.cells #[.string p.kind, .bool qo, .bool qb, .slice AW3 (ql).length cW3, .int .i64 qn] 31 : Obj)).alloc (.cells #[.int .i64 qc, .int .i64 qv, .string qt, .int .i64 qw, .int .i64 qh] 33 : Obj)).heap[W3.heap.size]? = some (.cells #[.string p.kind, .bool qo, .bool qb, .slice AW3 (ql).length cW3, .int .i64 qn] 31 (0, 0) : Obj) by rw [hW4.out]; exact RQ.out)
      obtain ⟨_, _, _, _, _, _⟩ := five_cells EQ.out
      have ER := hide (show ((W3.alloc (.cells #[.string p.kind, .bool qo, .bool qb, .slice AW3 (ql).length cW3, .int .i64 qn] 31 : Obj)).alloc (.cells #[.int .i64 qc, .int .i64 qv, .string qt, .int .i64 qw, .int .i64 qh] 33 : Obj)).heap[W3.heap.size + 1]? = some (.cells #[.int .i64 qc, .int .i64 qv, .string qt, .int .i64 qw, .int .i64 qh] 33 (0, 0) : Obj) by rw [hW4.out]; exact RR.out)
      obtain ⟨_, _, _, _, _, _⟩ := five_cells ER.out
      obtain ⟨_, _, _, _, _, _⟩ := five_cells RP.out
      obtain ⟨_, _, _, _, _⟩ := four_cells RX.out
      obtain ⟨_, _, _, _, _, _⟩ := five_cells RQ.out
      obtain ⟨_, _, _, _, _, _⟩ := five_cells RR.out
      go_upto_region 5 with fail
      rw [hW4.out]
      go_cut [28] from 11 (fun r wx => r = .bool false ∧ Below W4.heap.size W4 wx)
      case first =>
        have hzP : W1.heap.size < W4.heap.size := (Array.getElem?_eq_some_iff.1 RP.out).1
        have K0 : Below W4.heap.size W4 W4 := Below.refl _ _
        have KD : ∀ w' : World, Below W4.heap.size W4 w' → Below W4.heap.size W4 w'.drew := fun _ h => h.drew
        go_region_held3 (fun w' => Below W4.heap.size W4 w' ∧ w'.cell? ⟨W1.heap.size, 0, none⟩ = some (.string p.kind) ∧ w'.cell? ⟨W1.heap.size, 1, none⟩ = some (.bool p.on) ∧ w'.cell? ⟨W1.heap.size, 2, none⟩ = some (.bool p.broken) ∧ w'.cell? ⟨W1.heap.size, 3, none⟩ = some (.slice A p.cells.length c) ∧ w'.cell? ⟨W1.heap.size, 4, none⟩ = some (.int .i64 p.count)) (go_keep)
          (first
            | (go_at_call 42;
                refine (iIsCore_c p _ _ HP.out.wf ⟨RdL.below OP.out (And.left (by assumption)) (Nat.le_refl _), HP.out.2.2.wf⟩).mono ?_;
                rintro e WI0 ⟨rfl, bI⟩;
                rw [hcp.out];
                have KWWI0 : Below W4.heap.size W4 WI0 := below_then (And.left (by assumption)) bI;
                have KWI00 : ∀ k : Nat, WI0.cell? ⟨W1.heap.size, k, none⟩ = _ := fun k => bI.cell (Nat.lt_of_lt_of_le hzP (Below.size (And.left (by assumption)))))
            | (go_at_call 47;
                refine (sIsCore_c p _ _ ⟨RdL.below OP.out (And.left (by assumption)) (Nat.le_refl _), HP.out.2.2.wf⟩).mono ?_;
                rintro e WI1 ⟨rfl, bI⟩;
                rw [hcp.out];
                have KWWI1 : Below W4.heap.size W4 WI1 := below_then (And.left (by assumption)) bI;
                have KWI10 : ∀ k : Nat, WI1.cell? ⟨W1.heap.size, k, none⟩ = _ := fun k => bI.cell (Nat.lt_of_lt_of_le hzP (Below.size (And.left (by assumption))))))
        all_goals
          go_wp2_with fail
          go_meet
          exact ⟨rfl, by first | exact KWWI0 | exact KWWI1⟩
      case rest =>
      obtain ⟨rfl, b⟩ := hcut
      obtain ⟨W5, hxW5⟩ : ∃ W, wc = W := ⟨_, rfl⟩
      rw [hxW5] at b ⊢
      clear hxW5
      have RP := hide (show W5.heap[W1.heap.size]? = some (.cells #[.string p.kind, .bool p.on, .bool p.broken, .slice A p.cells.length c, .int .i64 p.count] 31 (0, 0) : Obj) from row_on b RP.out)
      have RX := hide (show W5.heap[W1.heap.size + 1]? = some (.cells #[.string x.method, .string x.key, .int .i64 x.value, .string x.text] 37 (0, 0) : Obj) from row_on b RX.out)
      have RQ := hide (show W5.heap[W3.heap.size]? = some (.cells #[.string p.kind, .bool qo, .bool qb, .slice AW3 (ql).length cW3, .int .i64 qn] 31 (0, 0) : Obj) from row_on b RQ.out)
      have RR := hide (show W5.heap[W3.heap.size + 1]? = some (.cells #[.int .i64 qc, .int .i64 qv, .string qt, .int .i64 qw, .int .i64 qh] 33 (0, 0) : Obj) from row_on b RR.out)
      have OP := hide (show RdL W5 2 cellEn (.slice A p.cells.length c) p.cells from RdL.below OP.out b (Nat.le_refl _))
      have OQ := hide (show RdL W5 2 cellEn (.slice AW3 (ql).length cW3) ql from RdL.below OQ.out b (Nat.le_refl _))
      have BW := below_then BW b
      obtain ⟨_, _, _, _, _, _⟩ := five_cells RP.out
      obtain ⟨_, _, _, _, _⟩ := four_cells RX.out
      obtain ⟨_, _, _, _, _, _⟩ := five_cells RQ.out
      obtain ⟨_, _, _, _, _, _⟩ := five_cells RR.out
      go_wp2_with fail
      refine (iIsCore_c p _ _ HP.out.wf ⟨OP.out, HP.out.2.2.wf⟩).mono ?_; rintro e W6 ⟨rfl, b⟩
      have RP := hide (show W6.heap[W1.heap.size]? = some (.cells #[.string p.kind, .bool p.on, .bool p.broken, .slice A p.cells.length c, .int .i64 p.count] 31 (0, 0) : Obj) from row_on b RP.out)
      have RX := hide (show W6.heap[W1.heap.size + 1]? = some (.cells #[.string x.method, .string x.key, .int .i64 x.value, .string x.text] 37 (0, 0) : Obj) from row_on b RX.out)
      have RQ := hide (show W6.heap[W3.heap.size]? = some (.cells #[.string p.kind, .bool qo, .bool qb, .slice AW3 (ql).length cW3, .int .i64 qn] 31 (0, 0) : Obj) from row_on b RQ.out)
      have RR := hide (show W6.heap[W3.heap.size + 1]? = some (.cells #[.int .i64 qc, .int .i64 qv, .string qt, .int .i64 qw, .int .i64 qh] 33 (0, 0) : Obj) from row_on b RR.out)
      have OP := hide (show RdL W6 2 cellEn (.slice A p.cells.length c) p.cells from RdL.below OP.out b (Nat.le_refl _))
      have OQ := hide (show RdL W6 2 cellEn (.slice AW3 (ql).length cW3) ql from RdL.below OQ.out b (Nat.le_refl _))
      have BW := below_then BW b
      rw [hcp.out]
      dsimp only
      by_cases hq1c : qc = 1
      · subst hq1c
        obtain ⟨_, _, _, _, _, _⟩ := five_cells RP.out
        obtain ⟨_, _, _, _, _⟩ := four_cells RX.out
        obtain ⟨_, _, _, _, _, _⟩ := five_cells RQ.out
        obtain ⟨_, _, _, _, _, _⟩ := five_cells RR.out
        go_wp2
        go_ret
        first | exact ⟨rfl, BW⟩ | exact ⟨rfl, below_drewN BW _⟩
      obtain ⟨hb1, hb2⟩ := hbr.out hq1c
      rcases (by cases p.on <;> simp : p.on = true ∨ p.on = false) with hpo | hpo
      · rw [hpo] at hb1
        obtain rfl : qc = 3 := by simpa using hb1
        obtain rfl : qb = true := by rw [hb2, hb1]; rfl
        clear hb1 hb2
        have RP := hide (show W6.heap[W1.heap.size]? = some (.cells #[.string p.kind, .bool true, .bool p.broken, .slice A p.cells.length c, .int .i64 p.count] 31 (0, 0) : Obj) by rw [RP.out, hpo])
        clear hpo
        obtain ⟨_, _, _, _, _, _⟩ := five_cells RP.out
        obtain ⟨_, _, _, _, _⟩ := four_cells RX.out
        obtain ⟨_, _, _, _, _, _⟩ := five_cells RQ.out
        obtain ⟨_, _, _, _, _, _⟩ := five_cells RR.out
        go_wp2_with fail
        refine (iIsCall_c x _ HX.out.wf).mono ?_; rintro e W7 ⟨rfl, b⟩
        have RP := hide (show W7.heap[W1.heap.size]? = some (.cells #[.string p.kind, .bool true, .bool p.broken, .slice A p.cells.length c, .int .i64 p.count] 31 (0, 0) : Obj) from row_on b RP.out)
        have RX := hide (show W7.heap[W1.heap.size + 1]? = some (.cells #[.string x.method, .string x.key, .int .i64 x.value, .string x.text] 37 (0, 0) : Obj) from row_on b RX.out)
        have RQ := hide (show W7.heap[W3.heap.size]? = some (.cells #[.string p.kind, .bool qo, .bool true, .slice AW3 (ql).length cW3, .int .i64 qn] 31 (0, 0) : Obj) from row_on b RQ.out)
        have RR := hide (show W7.heap[W3.heap.size + 1]? = some (.cells #[.int .i64 3, .int .i64 qv, .string qt, .int .i64 qw, .int .i64 qh] 33 (0, 0) : Obj) from row_on b RR.out)
        have OP := hide (show RdL W7 2 cellEn (.slice A p.cells.length c) p.cells from RdL.below OP.out b (Nat.le_refl _))
        have OQ := hide (show RdL W7 2 cellEn (.slice AW3 (ql).length cW3) ql from RdL.below OQ.out b (Nat.le_refl _))
        have BW := below_then BW b
        rcases (by cases Pu.callB x <;> simp : Pu.callB x = false ∨ Pu.callB x = true) with hcx | hcx
        all_goals rw [hcx]
        · skip
          obtain ⟨_, _, _, _, _, _⟩ := five_cells RP.out
          obtain ⟨_, _, _, _, _⟩ := four_cells RX.out
          obtain ⟨_, _, _, _, _, _⟩ := five_cells RQ.out
          obtain ⟨_, _, _, _, _, _⟩ := five_cells RR.out
          go_wp2
          go_ret
          first | exact ⟨rfl, BW⟩ | exact ⟨rfl, below_drewN BW _⟩
        replace hcx := hide hcx
        obtain ⟨⟨⟨yk, yo, yb, yl, yn⟩, ⟨yc, yv, yt, yw, yh⟩⟩, HR2⟩ : ∃ R : Pu.CoreD × Pu.ReplyD, Hid (Pu.callF ⟨p.kind, qo, true, ql, qn⟩ x = R) := ⟨_, rfl⟩
        have hbk := @Pu.breaks2 ⟨p.kind, qo, true, ql, qn⟩ x hq1.out rfl hcx.out
        rw [HR2.out] at hbk
        dsimp only at hbk
        obtain ⟨hk1, hk2⟩ := hbk
        replace hk1 := hide hk1
        replace hk2 := hide hk2
        obtain ⟨_, _, _, _, _, _⟩ := five_cells RP.out
        obtain ⟨_, _, _, _, _⟩ := four_cells RX.out
        obtain ⟨_, _, _, _, _, _⟩ := five_cells RQ.out
        obtain ⟨_, _, _, _, _, _⟩ := five_cells RR.out
        go_wp2_with fail
        refine (iCallCore_x ⟨p.kind, qo, true, ql, qn⟩ x _ _ yk yt yo yb yl yn yc yv yw yh (HM.out.below BW hlM) (HT.out.below BW hlT) (HE.out.below BW hlE) hwq.out HX.out.wf ⟨OQ.out, hql.2⟩ (by show ql.length ≤ 16777216; have := hql.1; omega) HX.out.text HR2).mono ?_; rintro e W8 ⟨AW8, cW8, rfl, o5, b⟩
        have RP := hide (show W8.heap[W1.heap.size]? = some (.cells #[.string p.kind, .bool true, .bool p.broken, .slice A p.cells.length c, .int .i64 p.count] 31 (0, 0) : Obj) from row_on b RP.out)
        have RX := hide (show W8.heap[W1.heap.size + 1]? = some (.cells #[.string x.method, .string x.key, .int .i64 x.value, .string x.text] 37 (0, 0) : Obj) from row_on b RX.out)
        have RQ := hide (show W8.heap[W3.heap.size]? = some (.cells #[.string p.kind, .bool qo, .bool true, .slice AW3 (ql).length cW3, .int .i64 qn] 31 (0, 0) : Obj) from row_on b RQ.out)
        have RR := hide (show W8.heap[W3.heap.size + 1]? = some (.cells #[.int .i64 3, .int .i64 qv, .string qt, .int .i64 qw, .int .i64 qh] 33 (0, 0) : Obj) from row_on b RR.out)
        have OP := hide (show RdL W8 2 cellEn (.slice A p.cells.length c) p.cells from RdL.below OP.out b (Nat.le_refl _))
        have OQ := hide (show RdL W8 2 cellEn (.slice AW3 (ql).length cW3) ql from RdL.below OQ.out b (Nat.le_refl _))
        have BW := below_then BW b
        have OY := hide (show RdL W8 2 cellEn (.slice AW8 (yl).length cW8) (yl) from o5.rd (fun _ => rfl))
        clear o5
        obtain ⟨W9, hW9⟩ : ∃ W, Hid ((W8.alloc (.cells #[.string yk, .bool yo, .bool yb, .slice AW8 (yl).length cW8, .int .i64 yn] 31 : Obj)).alloc (.cells #[.int .i64 yc, .int .i64 yv, .string yt, .int .i64 yw, .int .i64 yh] 33 : Obj) = W) := ⟨_, rfl⟩
        have b : Below W8.heap.size W8 W9 := by rw [← hW9.out]; exact below_alloc (below_alloc (Below.refl _ _) _) _
        have RP := hide (show W9.heap[W1.heap.size]? = some (.cells #[.string p.kind, .bool true, .bool p.broken, .slice A p.cells.length c, .int .i64 p.count] 31 (0, 0) : Obj) from row_on b RP.out)
        have RX := hide (show W9.heap[W1.heap.size + 1]? = some (.cells #[.string x.method, .string x.key, .int .i64 x.value, .string x.text] 37 (0, 0) : Obj) from row_on b RX.out)
        have RQ := hide (show W9.heap[W3.heap.size]? = some (.cells #[.string p.kind, .bool qo, .bool true, .slice AW3 (ql).length cW3, .int .i64 qn] 31 (0, 0) : Obj) from row_on b RQ.out)
        have RR := hide (show W9.heap[W3.heap.size + 1]? = some (.cells #[.int .i64 3, .int .i64 qv, .string qt, .int .i64 qw, .int .i64 qh] 33 (0, 0) : Obj) from row_on b RR.out)
        have OP := hide (show RdL W9 2 cellEn (.slice A p.cells.length c) p.cells from RdL.below OP.out b (Nat.le_refl _))
        have OQ := hide (show RdL W9 2 cellEn (.slice AW3 (ql).length cW3) ql from RdL.below OQ.out b (Nat.le_refl _))
        have OY := hide (show RdL W9 2 cellEn (.slice AW8 (yl).length cW8) yl from RdL.below OY.out b (Nat.le_refl _))
        have BW := below_then BW b
        have RY := hide (show W9.heap[W8.heap.size]? = some (.cells #[.string yk, .bool yo, .bool yb, .slice AW8 (yl).length cW8, .int .i64 yn] 31 (0, 0) : Obj) by rw [← hW9.out]; exact heap_old (by simp) (heap_new rfl))
        have RS := hide (show W9.heap[W8.heap.size + 1]? = some (.cells #[.int .i64 yc, .int .i64 yv, .string yt, .int .i64 yw, .int .i64 yh] 33 (0, 0) : Obj) by rw [← hW9.out]; exact heap_new (by simp))
        have EP := hide (show ((W8.alloc (.cells #[.string yk, .bool yo, .bool yb, .slice AW8 (yl).length cW8, .int .i64 yn] 31 : Obj)).alloc (.cells #[.int .i64 yc, .int .i64 yv, .string yt, .int .i64 yw, .int .i64 yh] 33 : Obj)).heap[W1.heap.size]? = some (.cells #[.string p.kind, .bool true, .bool p.broken, .slice A p.cells.length c, .int .i64 p.count] 31 (0, 0) : Obj) by rw [hW9.out]; exact RP.out)
        obtain ⟨_, _, _, _, _, _⟩ := five_cells EP.out
        have EX := hide (show ((W8.alloc (.cells #[.string yk, .bool yo, .bool yb, .slice AW8 (yl).length cW8, .int .i64 yn] 31 : Obj)).alloc (.cells #[.int .i64 yc, .int .i64 yv, .string yt, .int .i64 yw, .int .i64 yh] 33 : Obj)).heap[W1.heap.size + 1]? = some (.cells #[.string x.method, .string x.key, .int .i64 x.value, .string x.text] 37 (0, 0) : Obj) by rw [hW9.out]; exact RX.out)
        obtain ⟨_, _, _, _, _⟩ := four_cells EX.out
        have EQ := hide (show ((W8.alloc (.cells #[.string yk, .bool yo, .bool yb, .slice AW8 (yl).length cW8, .int .i64 yn] 31 : Obj)).alloc (.cells #[.int .i64 yc, .int .i64 yv, .string yt, .int .i64 yw, .int .i64 yh] 33 : Obj)).heap[W3.heap.size]? = some (.cells #[.string p.kind, .bool qo, .bool true, .slice AW3 (ql).length cW3, .int .i64 qn] 31 (0, 0) : Obj) by rw [hW9.out]; exact RQ.out)
        obtain ⟨_, _, _, _, _, _⟩ := five_cells EQ.out
        have ER := hide (show ((W8.alloc (.cells #[.string yk, .bool yo, .bool yb, .slice AW8 (yl).length cW8, .int .i64 yn] 31 : Obj)).alloc (.cells #[.int .i64 yc, .int .i64 yv, .string yt, .int .i64 yw, .int .i64 yh] 33 : Obj)).heap[W3.heap.size + 1]? = some (.cells #[.int .i64 3, .int .i64 qv, .string qt, .int .i64 qw, .int .i64 qh] 33 (0, 0) : Obj) by rw [hW9.out]; exact RR.out)
        obtain ⟨_, _, _, _, _, _⟩ := five_cells ER.out
        have EY := hide (show ((W8.alloc (.cells #[.string yk, .bool yo, .bool yb, .slice AW8 (yl).length cW8, .int .i64 yn] 31 : Obj)).alloc (.cells #[.int .i64 yc, .int .i64 yv, .string yt, .int .i64 yw, .int .i64 yh] 33 : Obj)).heap[W8.heap.size]? = some (.cells #[.string yk, .bool yo, .bool yb, .slice AW8 (yl).length cW8, .int .i64 yn] 31 (0, 0) : Obj) by rw [hW9.out]; exact RY.out)
        obtain ⟨_, _, _, _, _, _⟩ := five_cells EY.out
        have ES := hide (show ((W8.alloc (.cells #[.string yk, .bool yo, .bool yb, .slice AW8 (yl).length cW8, .int .i64 yn] 31 : Obj)).alloc (.cells #[.int .i64 yc, .int .i64 yv, .string yt, .int .i64 yw, .int .i64 yh] 33 : Obj)).heap[W8.heap.size + 1]? = some (.cells #[.int .i64 yc, .int .i64 yv, .string yt, .int .i64 yw, .int .i64 yh] 33 (0, 0) : Obj) by rw [hW9.out]; exact RS.out)
        obtain ⟨_, _, _, _, _, _⟩ := five_cells ES.out
        have hk1 : yb = !(yc == 0 && (x.method.toList == [72, 101, 97, 108])) := hk1.out
        have hk2 : (yc == 0 && (x.method.toList == [72, 101, 97, 108])) = true ∨ ((x.method.toList == [84, 101, 108, 108]) || (yc == 1)) = true ∨ (yc = 3 ∧ _) := hk2.out
        rcases (by cases (x.method.toList == [84, 101, 108, 108]) <;> simp : (x.method.toList == [84, 101, 108, 108]) = false ∨ (x.method.toList == [84, 101, 108, 108]) = true) with hmT | hmT
        · by_cases hs1 : yc = 1
          · subst hs1
            have hyb : yb = true := by rw [hk1]; rfl
            clear hk1 hk2
            obtain rfl : yb = true := hyb
            obtain ⟨_, _, _, _, _, _⟩ := five_cells RP.out
            obtain ⟨_, _, _, _, _⟩ := four_cells RX.out
            obtain ⟨_, _, _, _, _, _⟩ := five_cells RQ.out
            obtain ⟨_, _, _, _, _, _⟩ := five_cells RR.out
            obtain ⟨_, _, _, _, _, _⟩ := five_cells RY.out
            obtain ⟨_, _, _, _, _, _⟩ := five_cells RS.out
            go_wp2
            rw [hW9.out]
            go_ret
            first | exact ⟨rfl, BW⟩ | exact ⟨rfl, below_drewN BW _⟩
          by_cases hs3 : yc = 3
          · subst hs3
            have hb1 : ((3 : Int) == 1) = false := rfl
            have hyb : yb = true := by rw [hk1]; rfl
            have hsm : Pu.sameCore ⟨p.kind, qo, true, ql, qn⟩ ⟨yk, yo, true, yl, yn⟩ = true := by
              rcases hk2 with h | h | ⟨_, h⟩
              · exact absurd h (by simp)
              · rw [hmT] at h; exact absurd h (by simp)
              · rw [hyb] at h; rw [h]; exact sameCore_refl _
            clear hk1 hk2
            obtain rfl : yb = true := hyb
            obtain ⟨_, _, _, _, _, _⟩ := five_cells RP.out
            obtain ⟨_, _, _, _, _⟩ := four_cells RX.out
            obtain ⟨_, _, _, _, _, _⟩ := five_cells RQ.out
            obtain ⟨_, _, _, _, _, _⟩ := five_cells RR.out
            obtain ⟨_, _, _, _, _, _⟩ := five_cells RY.out
            obtain ⟨_, _, _, _, _, _⟩ := five_cells RS.out
            go_wp2_with fail
            rw [hW9.out]
            refine (iSameCore_c ⟨p.kind, qo, true, ql, qn⟩ ⟨yk, yo, true, yl, yn⟩ _ _ _ OQ.out OY.out).mono ?_; rintro e W10 ⟨rfl, b⟩
            have RP := hide (show W10.heap[W1.heap.size]? = some (.cells #[.string p.kind, .bool true, .bool p.broken, .slice A p.cells.length c, .int .i64 p.count] 31 (0, 0) : Obj) from row_on b RP.out)
            have RX := hide (show W10.heap[W1.heap.size + 1]? = some (.cells #[.string x.method, .string x.key, .int .i64 x.value, .string x.text] 37 (0, 0) : Obj) from row_on b RX.out)
            have RQ := hide (show W10.heap[W3.heap.size]? = some (.cells #[.string p.kind, .bool qo, .bool true, .slice AW3 (ql).length cW3, .int .i64 qn] 31 (0, 0) : Obj) from row_on b RQ.out)
            have RR := hide (show W10.heap[W3.heap.size + 1]? = some (.cells #[.int .i64 3, .int .i64 qv, .string qt, .int .i64 qw, .int .i64 qh] 33 (0, 0) : Obj) from row_on b RR.out)
            have RY := hide (show W10.heap[W8.heap.size]? = some (.cells #[.string yk, .bool yo, .bool true, .slice AW8 (yl).length cW8, .int .i64 yn] 31 (0, 0) : Obj) from row_on b RY.out)
            have RS := hide (show W10.heap[W8.heap.size + 1]? = some (.cells #[.int .i64 3, .int .i64 yv, .string yt, .int .i64 yw, .int .i64 yh] 33 (0, 0) : Obj) from row_on b RS.out)
            have OP := hide (show RdL W10 2 cellEn (.slice A p.cells.length c) p.cells from RdL.below OP.out b (Nat.le_refl _))
            have OQ := hide (show RdL W10 2 cellEn (.slice AW3 (ql).length cW3) ql from RdL.below OQ.out b (Nat.le_refl _))
            have OY := hide (show RdL W10 2 cellEn (.slice AW8 (yl).length cW8) yl from RdL.below OY.out b (Nat.le_refl _))
            have BW := below_then BW b
            rw [hsm]
            obtain ⟨_, _, _, _, _, _⟩ := five_cells RP.out
            obtain ⟨_, _, _, _, _⟩ := four_cells RX.out
            obtain ⟨_, _, _, _, _, _⟩ := five_cells RQ.out
            obtain ⟨_, _, _, _, _, _⟩ := five_cells RR.out
            obtain ⟨_, _, _, _, _, _⟩ := five_cells RY.out
            obtain ⟨_, _, _, _, _, _⟩ := five_cells RS.out
            go_wp2
            go_ret
            first | exact ⟨rfl, BW⟩ | exact ⟨rfl, below_drewN BW _⟩
          have hz : yc = 0 ∧ (x.method.toList == [72, 101, 97, 108]) = true := by
            rcases hk2 with h | h | ⟨h, _⟩
            · simpa using h
            · rw [hmT] at h; exact absurd (by simpa using h) hs1
            · exact absurd h hs3
          obtain ⟨rfl, hmH⟩ := hz
          have hyb : yb = false := by rw [hk1, hmH]; rfl
          clear hk1 hk2 hs1 hs3
          obtain rfl : yb = false := hyb
          obtain ⟨_, _, _, _, _, _⟩ := five_cells RP.out
          obtain ⟨_, _, _, _, _⟩ := four_cells RX.out
          obtain ⟨_, _, _, _, _, _⟩ := five_cells RQ.out
          obtain ⟨_, _, _, _, _, _⟩ := five_cells RR.out
          obtain ⟨_, _, _, _, _, _⟩ := five_cells RY.out
          obtain ⟨_, _, _, _, _, _⟩ := five_cells RS.out
          go_wp2
          rw [hW9.out]
          go_ret
          first | exact ⟨rfl, BW⟩ | exact ⟨rfl, below_drewN BW _⟩
        · have hmH : (x.method.toList == [72, 101, 97, 108]) = false := by
            have h : x.method.toList = [84, 101, 108, 108] := by simpa using hmT
            rw [h]; rfl
          have hyb : yb = true := by rw [hk1, hmH]; simp
          clear hk1 hk2
          by_cases hs0 : yc = 0
          · subst hs0
            obtain rfl : yb = true := hyb
            obtain ⟨_, _, _, _, _, _⟩ := five_cells RP.out
            obtain ⟨_, _, _, _, _⟩ := four_cells RX.out
            obtain ⟨_, _, _, _, _, _⟩ := five_cells RQ.out
            obtain ⟨_, _, _, _, _, _⟩ := five_cells RR.out
            obtain ⟨_, _, _, _, _, _⟩ := five_cells RY.out
            obtain ⟨_, _, _, _, _, _⟩ := five_cells RS.out
            go_wp2
            rw [hW9.out]
            go_ret
            first | exact ⟨rfl, BW⟩ | exact ⟨rfl, below_drewN BW _⟩
          · have hb0 : (yc == 0) = false := by simp [hs0]
            obtain rfl : yb = true := hyb
            obtain ⟨_, _, _, _, _, _⟩ := five_cells RP.out
            obtain ⟨_, _, _, _, _⟩ := four_cells RX.out
            obtain ⟨_, _, _, _, _, _⟩ := five_cells RQ.out
            obtain ⟨_, _, _, _, _, _⟩ := five_cells RR.out
            obtain ⟨_, _, _, _, _, _⟩ := five_cells RY.out
            obtain ⟨_, _, _, _, _, _⟩ := five_cells RS.out
            go_wp2
            rw [hW9.out]
            go_ret
            first | exact ⟨rfl, BW⟩ | exact ⟨rfl, below_drewN BW _⟩
      rcases (by cases p.broken <;> simp : p.broken = true ∨ p.broken = false) with hpb | hpb
      · rw [hpo, hpb] at hb1
        obtain rfl : qc = 3 := by simpa using hb1
        obtain rfl : qb = true := by rw [hb2, hb1]; rfl
        clear hb1 hb2
        have RP := hide (show W6.heap[W1.heap.size]? = some (.cells #[.string p.kind, .bool false, .bool true, .slice A p.cells.length c, .int .i64 p.count] 31 (0, 0) : Obj) by rw [RP.out, hpo, hpb])
        clear hpo hpb
        obtain ⟨_, _, _, _, _, _⟩ := five_cells RP.out
        obtain ⟨_, _, _, _, _⟩ := four_cells RX.out
        obtain ⟨_, _, _, _, _, _⟩ := five_cells RQ.out
        obtain ⟨_, _, _, _, _, _⟩ := five_cells RR.out
        go_wp2_with fail
        refine (iIsCall_c x _ HX.out.wf).mono ?_; rintro e W7 ⟨rfl, b⟩
        have RP := hide (show W7.heap[W1.heap.size]? = some (.cells #[.string p.kind, .bool false, .bool true, .slice A p.cells.length c, .int .i64 p.count] 31 (0, 0) : Obj) from row_on b RP.out)
        have RX := hide (show W7.heap[W1.heap.size + 1]? = some (.cells #[.string x.method, .string x.key, .int .i64 x.value, .string x.text] 37 (0, 0) : Obj) from row_on b RX.out)
        have RQ := hide (show W7.heap[W3.heap.size]? = some (.cells #[.string p.kind, .bool qo, .bool true, .slice AW3 (ql).length cW3, .int .i64 qn] 31 (0, 0) : Obj) from row_on b RQ.out)
        have RR := hide (show W7.heap[W3.heap.size + 1]? = some (.cells #[.int .i64 3, .int .i64 qv, .string qt, .int .i64 qw, .int .i64 qh] 33 (0, 0) : Obj) from row_on b RR.out)
        have OP := hide (show RdL W7 2 cellEn (.slice A p.cells.length c) p.cells from RdL.below OP.out b (Nat.le_refl _))
        have OQ := hide (show RdL W7 2 cellEn (.slice AW3 (ql).length cW3) ql from RdL.below OQ.out b (Nat.le_refl _))
        have BW := below_then BW b
        rcases (by cases Pu.callB x <;> simp : Pu.callB x = false ∨ Pu.callB x = true) with hcx | hcx
        all_goals rw [hcx]
        · skip
          obtain ⟨_, _, _, _, _, _⟩ := five_cells RP.out
          obtain ⟨_, _, _, _, _⟩ := four_cells RX.out
          obtain ⟨_, _, _, _, _, _⟩ := five_cells RQ.out
          obtain ⟨_, _, _, _, _, _⟩ := five_cells RR.out
          go_wp2
          go_ret
          first | exact ⟨rfl, BW⟩ | exact ⟨rfl, below_drewN BW _⟩
        replace hcx := hide hcx
        obtain ⟨⟨⟨yk, yo, yb, yl, yn⟩, ⟨yc, yv, yt, yw, yh⟩⟩, HR2⟩ : ∃ R : Pu.CoreD × Pu.ReplyD, Hid (Pu.callF ⟨p.kind, qo, true, ql, qn⟩ x = R) := ⟨_, rfl⟩
        have hbk := @Pu.breaks2 ⟨p.kind, qo, true, ql, qn⟩ x hq1.out rfl hcx.out
        rw [HR2.out] at hbk
        dsimp only at hbk
        obtain ⟨hk1, hk2⟩ := hbk
        replace hk1 := hide hk1
        replace hk2 := hide hk2
        obtain ⟨_, _, _, _, _, _⟩ := five_cells RP.out
        obtain ⟨_, _, _, _, _⟩ := four_cells RX.out
        obtain ⟨_, _, _, _, _, _⟩ := five_cells RQ.out
        obtain ⟨_, _, _, _, _, _⟩ := five_cells RR.out
        go_wp2_with fail
        refine (iCallCore_x ⟨p.kind, qo, true, ql, qn⟩ x _ _ yk yt yo yb yl yn yc yv yw yh (HM.out.below BW hlM) (HT.out.below BW hlT) (HE.out.below BW hlE) hwq.out HX.out.wf ⟨OQ.out, hql.2⟩ (by show ql.length ≤ 16777216; have := hql.1; omega) HX.out.text HR2).mono ?_; rintro e W8 ⟨AW8, cW8, rfl, o5, b⟩
        have RP := hide (show W8.heap[W1.heap.size]? = some (.cells #[.string p.kind, .bool false, .bool true, .slice A p.cells.length c, .int .i64 p.count] 31 (0, 0) : Obj) from row_on b RP.out)
        have RX := hide (show W8.heap[W1.heap.size + 1]? = some (.cells #[.string x.method, .string x.key, .int .i64 x.value, .string x.text] 37 (0, 0) : Obj) from row_on b RX.out)
        have RQ := hide (show W8.heap[W3.heap.size]? = some (.cells #[.string p.kind, .bool qo, .bool true, .slice AW3 (ql).length cW3, .int .i64 qn] 31 (0, 0) : Obj) from row_on b RQ.out)
        have RR := hide (show W8.heap[W3.heap.size + 1]? = some (.cells #[.int .i64 3, .int .i64 qv, .string qt, .int .i64 qw, .int .i64 qh] 33 (0, 0) : Obj) from row_on b RR.out)
        have OP := hide (show RdL W8 2 cellEn (.slice A p.cells.length c) p.cells from RdL.below OP.out b (Nat.le_refl _))
        have OQ := hide (show RdL W8 2 cellEn (.slice AW3 (ql).length cW3) ql from RdL.below OQ.out b (Nat.le_refl _))
        have BW := below_then BW b
        have OY := hide (show RdL W8 2 cellEn (.slice AW8 (yl).length cW8) (yl) from o5.rd (fun _ => rfl))
        clear o5
        obtain ⟨W9, hW9⟩ : ∃ W, Hid ((W8.alloc (.cells #[.string yk, .bool yo, .bool yb, .slice AW8 (yl).length cW8, .int .i64 yn] 31 : Obj)).alloc (.cells #[.int .i64 yc, .int .i64 yv, .string yt, .int .i64 yw, .int .i64 yh] 33 : Obj) = W) := ⟨_, rfl⟩
        have b : Below W8.heap.size W8 W9 := by rw [← hW9.out]; exact below_alloc (below_alloc (Below.refl _ _) _) _
        have RP := hide (show W9.heap[W1.heap.size]? = some (.cells #[.string p.kind, .bool false, .bool true, .slice A p.cells.length c, .int .i64 p.count] 31 (0, 0) : Obj) from row_on b RP.out)
        have RX := hide (show W9.heap[W1.heap.size + 1]? = some (.cells #[.string x.method, .string x.key, .int .i64 x.value, .string x.text] 37 (0, 0) : Obj) from row_on b RX.out)
        have RQ := hide (show W9.heap[W3.heap.size]? = some (.cells #[.string p.kind, .bool qo, .bool true, .slice AW3 (ql).length cW3, .int .i64 qn] 31 (0, 0) : Obj) from row_on b RQ.out)
        have RR := hide (show W9.heap[W3.heap.size + 1]? = some (.cells #[.int .i64 3, .int .i64 qv, .string qt, .int .i64 qw, .int .i64 qh] 33 (0, 0) : Obj) from row_on b RR.out)
        have OP := hide (show RdL W9 2 cellEn (.slice A p.cells.length c) p.cells from RdL.below OP.out b (Nat.le_refl _))
        have OQ := hide (show RdL W9 2 cellEn (.slice AW3 (ql).length cW3) ql from RdL.below OQ.out b (Nat.le_refl _))
        have OY := hide (show RdL W9 2 cellEn (.slice AW8 (yl).length cW8) yl from RdL.below OY.out b (Nat.le_refl _))
        have BW := below_then BW b
        have RY := hide (show W9.heap[W8.heap.size]? = some (.cells #[.string yk, .bool yo, .bool yb, .slice AW8 (yl).length cW8, .int .i64 yn] 31 (0, 0) : Obj) by rw [← hW9.out]; exact heap_old (by simp) (heap_new rfl))
        have RS := hide (show W9.heap[W8.heap.size + 1]? = some (.cells #[.int .i64 yc, .int .i64 yv, .string yt, .int .i64 yw, .int .i64 yh] 33 (0, 0) : Obj) by rw [← hW9.out]; exact heap_new (by simp))
        have EP := hide (show ((W8.alloc (.cells #[.string yk, .bool yo, .bool yb, .slice AW8 (yl).length cW8, .int .i64 yn] 31 : Obj)).alloc (.cells #[.int .i64 yc, .int .i64 yv, .string yt, .int .i64 yw, .int .i64 yh] 33 : Obj)).heap[W1.heap.size]? = some (.cells #[.string p.kind, .bool false, .bool true, .slice A p.cells.length c, .int .i64 p.count] 31 (0, 0) : Obj) by rw [hW9.out]; exact RP.out)
        obtain ⟨_, _, _, _, _, _⟩ := five_cells EP.out
        have EX := hide (show ((W8.alloc (.cells #[.string yk, .bool yo, .bool yb, .slice AW8 (yl).length cW8, .int .i64 yn] 31 : Obj)).alloc (.cells #[.int .i64 yc, .int .i64 yv, .string yt, .int .i64 yw, .int .i64 yh] 33 : Obj)).heap[W1.heap.size + 1]? = some (.cells #[.string x.method, .string x.key, .int .i64 x.value, .string x.text] 37 (0, 0) : Obj) by rw [hW9.out]; exact RX.out)
        obtain ⟨_, _, _, _, _⟩ := four_cells EX.out
        have EQ := hide (show ((W8.alloc (.cells #[.string yk, .bool yo, .bool yb, .slice AW8 (yl).length cW8, .int .i64 yn] 31 : Obj)).alloc (.cells #[.int .i64 yc, .int .i64 yv, .string yt, .int .i64 yw, .int .i64 yh] 33 : Obj)).heap[W3.heap.size]? = some (.cells #[.string p.kind, .bool qo, .bool true, .slice AW3 (ql).length cW3, .int .i64 qn] 31 (0, 0) : Obj) by rw [hW9.out]; exact RQ.out)
        obtain ⟨_, _, _, _, _, _⟩ := five_cells EQ.out
        have ER := hide (show ((W8.alloc (.cells #[.string yk, .bool yo, .bool yb, .slice AW8 (yl).length cW8, .int .i64 yn] 31 : Obj)).alloc (.cells #[.int .i64 yc, .int .i64 yv, .string yt, .int .i64 yw, .int .i64 yh] 33 : Obj)).heap[W3.heap.size + 1]? = some (.cells #[.int .i64 3, .int .i64 qv, .string qt, .int .i64 qw, .int .i64 qh] 33 (0, 0) : Obj) by rw [hW9.out]; exact RR.out)
        obtain ⟨_, _, _, _, _, _⟩ := five_cells ER.out
        have EY := hide (show ((W8.alloc (.cells #[.string yk, .bool yo, .bool yb, .slice AW8 (yl).length cW8, .int .i64 yn] 31 : Obj)).alloc (.cells #[.int .i64 yc, .int .i64 yv, .string yt, .int .i64 yw, .int .i64 yh] 33 : Obj)).heap[W8.heap.size]? = some (.cells #[.string yk, .bool yo, .bool yb, .slice AW8 (yl).length cW8, .int .i64 yn] 31 (0, 0) : Obj) by rw [hW9.out]; exact RY.out)
        obtain ⟨_, _, _, _, _, _⟩ := five_cells EY.out
        have ES := hide (show ((W8.alloc (.cells #[.string yk, .bool yo, .bool yb, .slice AW8 (yl).length cW8, .int .i64 yn] 31 : Obj)).alloc (.cells #[.int .i64 yc, .int .i64 yv, .string yt, .int .i64 yw, .int .i64 yh] 33 : Obj)).heap[W8.heap.size + 1]? = some (.cells #[.int .i64 yc, .int .i64 yv, .string yt, .int .i64 yw, .int .i64 yh] 33 (0, 0) : Obj) by rw [hW9.out]; exact RS.out)
        obtain ⟨_, _, _, _, _, _⟩ := five_cells ES.out
        have hk1 : yb = !(yc == 0 && (x.method.toList == [72, 101, 97, 108])) := hk1.out
        have hk2 : (yc == 0 && (x.method.toList == [72, 101, 97, 108])) = true ∨ ((x.method.toList == [84, 101, 108, 108]) || (yc == 1)) = true ∨ (yc = 3 ∧ _) := hk2.out
        rcases (by cases (x.method.toList == [84, 101, 108, 108]) <;> simp : (x.method.toList == [84, 101, 108, 108]) = false ∨ (x.method.toList == [84, 101, 108, 108]) = true) with hmT | hmT
        · by_cases hs1 : yc = 1
          · subst hs1
            have hyb : yb = true := by rw [hk1]; rfl
            clear hk1 hk2
            obtain rfl : yb = true := hyb
            obtain ⟨_, _, _, _, _, _⟩ := five_cells RP.out
            obtain ⟨_, _, _, _, _⟩ := four_cells RX.out
            obtain ⟨_, _, _, _, _, _⟩ := five_cells RQ.out
            obtain ⟨_, _, _, _, _, _⟩ := five_cells RR.out
            obtain ⟨_, _, _, _, _, _⟩ := five_cells RY.out
            obtain ⟨_, _, _, _, _, _⟩ := five_cells RS.out
            go_wp2
            rw [hW9.out]
            go_ret
            first | exact ⟨rfl, BW⟩ | exact ⟨rfl, below_drewN BW _⟩
          by_cases hs3 : yc = 3
          · subst hs3
            have hb1 : ((3 : Int) == 1) = false := rfl
            have hyb : yb = true := by rw [hk1]; rfl
            have hsm : Pu.sameCore ⟨p.kind, qo, true, ql, qn⟩ ⟨yk, yo, true, yl, yn⟩ = true := by
              rcases hk2 with h | h | ⟨_, h⟩
              · exact absurd h (by simp)
              · rw [hmT] at h; exact absurd h (by simp)
              · rw [hyb] at h; rw [h]; exact sameCore_refl _
            clear hk1 hk2
            obtain rfl : yb = true := hyb
            obtain ⟨_, _, _, _, _, _⟩ := five_cells RP.out
            obtain ⟨_, _, _, _, _⟩ := four_cells RX.out
            obtain ⟨_, _, _, _, _, _⟩ := five_cells RQ.out
            obtain ⟨_, _, _, _, _, _⟩ := five_cells RR.out
            obtain ⟨_, _, _, _, _, _⟩ := five_cells RY.out
            obtain ⟨_, _, _, _, _, _⟩ := five_cells RS.out
            go_wp2_with fail
            rw [hW9.out]
            refine (iSameCore_c ⟨p.kind, qo, true, ql, qn⟩ ⟨yk, yo, true, yl, yn⟩ _ _ _ OQ.out OY.out).mono ?_; rintro e W10 ⟨rfl, b⟩
            have RP := hide (show W10.heap[W1.heap.size]? = some (.cells #[.string p.kind, .bool false, .bool true, .slice A p.cells.length c, .int .i64 p.count] 31 (0, 0) : Obj) from row_on b RP.out)
            have RX := hide (show W10.heap[W1.heap.size + 1]? = some (.cells #[.string x.method, .string x.key, .int .i64 x.value, .string x.text] 37 (0, 0) : Obj) from row_on b RX.out)
            have RQ := hide (show W10.heap[W3.heap.size]? = some (.cells #[.string p.kind, .bool qo, .bool true, .slice AW3 (ql).length cW3, .int .i64 qn] 31 (0, 0) : Obj) from row_on b RQ.out)
            have RR := hide (show W10.heap[W3.heap.size + 1]? = some (.cells #[.int .i64 3, .int .i64 qv, .string qt, .int .i64 qw, .int .i64 qh] 33 (0, 0) : Obj) from row_on b RR.out)
            have RY := hide (show W10.heap[W8.heap.size]? = some (.cells #[.string yk, .bool yo, .bool true, .slice AW8 (yl).length cW8, .int .i64 yn] 31 (0, 0) : Obj) from row_on b RY.out)
            have RS := hide (show W10.heap[W8.heap.size + 1]? = some (.cells #[.int .i64 3, .int .i64 yv, .string yt, .int .i64 yw, .int .i64 yh] 33 (0, 0) : Obj) from row_on b RS.out)
            have OP := hide (show RdL W10 2 cellEn (.slice A p.cells.length c) p.cells from RdL.below OP.out b (Nat.le_refl _))
            have OQ := hide (show RdL W10 2 cellEn (.slice AW3 (ql).length cW3) ql from RdL.below OQ.out b (Nat.le_refl _))
            have OY := hide (show RdL W10 2 cellEn (.slice AW8 (yl).length cW8) yl from RdL.below OY.out b (Nat.le_refl _))
            have BW := below_then BW b
            rw [hsm]
            obtain ⟨_, _, _, _, _, _⟩ := five_cells RP.out
            obtain ⟨_, _, _, _, _⟩ := four_cells RX.out
            obtain ⟨_, _, _, _, _, _⟩ := five_cells RQ.out
            obtain ⟨_, _, _, _, _, _⟩ := five_cells RR.out
            obtain ⟨_, _, _, _, _, _⟩ := five_cells RY.out
            obtain ⟨_, _, _, _, _, _⟩ := five_cells RS.out
            go_wp2
            go_ret
            first | exact ⟨rfl, BW⟩ | exact ⟨rfl, below_drewN BW _⟩
          have hz : yc = 0 ∧ (x.method.toList == [72, 101, 97, 108]) = true := by
            rcases hk2 with h | h | ⟨h, _⟩
            · simpa using h
            · rw [hmT] at h; exact absurd (by simpa using h) hs1
            · exact absurd h hs3
          obtain ⟨rfl, hmH⟩ := hz
          have hyb : yb = false := by rw [hk1, hmH]; rfl
          clear hk1 hk2 hs1 hs3
          obtain rfl : yb = false := hyb
          obtain ⟨_, _, _, _, _, _⟩ := five_cells RP.out
          obtain ⟨_, _, _, _, _⟩ := four_cells RX.out
          obtain ⟨_, _, _, _, _, _⟩ := five_cells RQ.out
          obtain ⟨_, _, _, _, _, _⟩ := five_cells RR.out
          obtain ⟨_, _, _, _, _, _⟩ := five_cells RY.out
          obtain ⟨_, _, _, _, _, _⟩ := five_cells RS.out
          go_wp2
          rw [hW9.out]
          go_ret
          first | exact ⟨rfl, BW⟩ | exact ⟨rfl, below_drewN BW _⟩
        · have hmH : (x.method.toList == [72, 101, 97, 108]) = false := by
            have h : x.method.toList = [84, 101, 108, 108] := by simpa using hmT
            rw [h]; rfl
          have hyb : yb = true := by rw [hk1, hmH]; simp
          clear hk1 hk2
          by_cases hs0 : yc = 0
          · subst hs0
            obtain rfl : yb = true := hyb
            obtain ⟨_, _, _, _, _, _⟩ := five_cells RP.out
            obtain ⟨_, _, _, _, _⟩ := four_cells RX.out
            obtain ⟨_, _, _, _, _, _⟩ := five_cells RQ.out
            obtain ⟨_, _, _, _, _, _⟩ := five_cells RR.out
            obtain ⟨_, _, _, _, _, _⟩ := five_cells RY.out
            obtain ⟨_, _, _, _, _, _⟩ := five_cells RS.out
            go_wp2
            rw [hW9.out]
            go_ret
            first | exact ⟨rfl, BW⟩ | exact ⟨rfl, below_drewN BW _⟩
          · have hb0 : (yc == 0) = false := by simp [hs0]
            obtain rfl : yb = true := hyb
            obtain ⟨_, _, _, _, _, _⟩ := five_cells RP.out
            obtain ⟨_, _, _, _, _⟩ := four_cells RX.out
            obtain ⟨_, _, _, _, _, _⟩ := five_cells RQ.out
            obtain ⟨_, _, _, _, _, _⟩ := five_cells RR.out
            obtain ⟨_, _, _, _, _, _⟩ := five_cells RY.out
            obtain ⟨_, _, _, _, _, _⟩ := five_cells RS.out
            go_wp2
            rw [hW9.out]
            go_ret
            first | exact ⟨rfl, BW⟩ | exact ⟨rfl, below_drewN BW _⟩
      · rw [hpo, hpb] at hb1
        have hq3c : ¬ qc = 3 := by simpa using hb1
        have hbq3 : (qc == 3) = false := by simp [hq3c]
        have hbq1 : (qc == 1) = false := by simp [hq1c]
        obtain rfl : qb = false := by rw [hb2, hb1]; rfl
        clear hb1 hb2
        have RP := hide (show W6.heap[W1.heap.size]? = some (.cells #[.string p.kind, .bool false, .bool false, .slice A p.cells.length c, .int .i64 p.count] 31 (0, 0) : Obj) by rw [RP.out, hpo, hpb])
        clear hpo hpb
        obtain ⟨_, _, _, _, _, _⟩ := five_cells RP.out
        obtain ⟨_, _, _, _, _⟩ := four_cells RX.out
        obtain ⟨_, _, _, _, _, _⟩ := five_cells RQ.out
        obtain ⟨_, _, _, _, _, _⟩ := five_cells RR.out
        go_wp2
        go_ret
        first | exact ⟨rfl, BW⟩ | exact ⟨rfl, below_drewN BW _⟩
  · go_enter Tryz.func8, Tryz.ntmps8
    go_wp2_with fail
    refine (big_c _ _ _ H0.out).mono ?_; rintro e w' ⟨rfl, rfl⟩
    rw [hbig]
    go_wp2
    go_ret
    exact ⟨rfl, Below.refl _ _⟩

/-- The laid heap meets the condition. -/
theorem door_met (os : Os) (args : Array Value) : laidMetH Tryz.prog Rows.fnBreaksRow.laid ((World.laidAll Tryz.prog os Rows.fnBreaksRow.laid).forCall (fun _ _ => 0) ⟨#[], args, []⟩).memory := by
  rw [MakeChecks.laidMetH_plain _ _ _ (by kernel_rfl)]
  exact laidMet_laidAll _ (by kernel_rfl) (by kernel_rfl)

set_option maxRecDepth 100000 in
theorem lifted (os : Os) (started : os.Started) (H : Type) (enc : TypeId × Value → H) :
    ReturnsInHanded {} Tryz.checked os 8 .any (fun w args => (Rows.fnBreaksSpec.pre enc Tryz.prog Tryz.f8 [] false w args ∧ laidMetH Tryz.prog Rows.fnBreaksRow.laid w) ∧ sizedMet enc Tryz.prog Tryz.f8 (OpenSpec.ofChange Rows.fnBreaksSpec) false w args) (Rows.fnBreaksSpec.post enc Tryz.prog Tryz.f8 false true false false) := by
  refine wrapV (C := Tryz.checked) (X := fun w _ => laidMetH Tryz.prog Rows.fnBreaksRow.laid w) (fun _ _ _ hh h => h.of_heap hh) own started (by kernel_rfl) Tryz.func8
    (ChangeSpec.witness_shaped (enc := enc) (C := Tryz.checked) (os := os) (X := fun w _ => laidMetH Tryz.prog Rows.fnBreaksRow.laid w) false (World.laidAll Tryz.prog os Rows.fnBreaksRow.laid) #[.slice none 0 0] 8 (World.laidAll_os _ _ _) (World.shaped_of_ZipB (by kernel_rfl) (by kernel_rfl)) (by kernel_rfl) (by kernel_rfl) (by kernel_rfl) (door_met os _)) ?_
  intro W base args ds gs before hval0 hW hL hS
  have hval : ∀ (j : Nat) t v, Tryz.f8.params[j]? = some t → args[j]? = some v → Value.okWide Tryz.prog W .any base t v := hval0
  have hW' := hW
  obtain ⟨p, q, hA0, hV, rfl, hfz, hnd⟩ := hW
  have hA : DataW.TrodAll enc Tryz.prog W 0 (fun _ => true) true Tryz.f8.params.toList args.toList ds p := hA0
  rw [Tryz.params8] at hA hval
  obtain ⟨v0, vs0, d0, ds0, p0, q0, hargs, rfl, rfl, h0, r0⟩ := trodAll_cons hA
  obtain ⟨rfl, rfl, rfl⟩ := trodAll_nil r0
  obtain rfl : args = #[v0] := by cases args; simp_all
  obtain ⟨rfl, rfl⟩ := trodVars_none hV
  obtain ⟨a0, hv0⟩ := open_bytes (hval 0 55 v0 rfl rfl) h0
  refine (walk W (pow10_of (met_reads hL (by kernel_rfl) (.tail _ (.tail _ (.head _))))) (errsyn_of (met_reads hL (by kernel_rfl) (.tail _ (.tail _ (.tail _ (.tail _ (.tail _ (.head _)))))))) (maxc_of hS) v0 a0 hv0).mono fun e W' ⟨he, hg⟩ => ?_
  subst he
  exact ⟨_, rfl, law_postV (tb := 4) (by kernel_rfl) (by kernel_rfl) (by kernel_rfl) hW' hg rfl Tryz.underlying4 rfl rfl rfl⟩

theorem over : Rows.FnBreaksSaid :=
  OpenClaim.holds_of_wide 8 Tryz.f8 rfl rfl rfl rfl rfl rfl rfl ⟨rfl, rfl, rfl, rfl, rfl⟩ rfl rfl rfl rfl rfl (by kernel_rfl) Tryz.func8 (by kernel_rfl)
    (of_decide_eq_true (by kernel_rfl)) (by unfold Func.isWrapper; first | (rw [if_pos (by decide +kernel)]; kernel_rfl) | (rw [if_neg (by decide +kernel)]; exact ⟨rfl, rfl⟩))
    (fun os started H enc _ => lifted os started H enc)

/-- The statement: the tied card. -/
theorem proved : Rows.FnBreaksCardSaid :=
  Claim7.holds_tied_plain_at .later [] [.data, .data, .data, .data, .sentinel, .sentinel, .pinned] true (true, "15f444c23c93b2403839749698f01a757c47729f86feb889b0929fa11f9b21ff") true over (fun _ h => by cases h) (by kernel_rfl) (fun _ h => by cases h) fnBreaks_row_tie rfl ⟨rfl, rfl⟩ (by kernel_rfl) rfl
    (fun f fn hf hfn => by
      obtain rfl : 8 = f := Option.some.inj ((show Tryz.prog.funcNamed Rows.fnBreaksRow.func = some 8 by kernel_rfl).symm.trans hf)
      obtain rfl : Tryz.f8 = fn := Option.some.inj (Tryz.func8.symm.trans hfn)
      exact ⟨by kernel_rfl, fun j t ht => by
        rw [Tryz.params8] at ht
        have hm : t ∈ [55] := by simpa using Array.mem_of_getElem? ht
        have hall : ([55].all fun u => !Tryz.prog.wantsStandIn u) = true := by kernel_rfl
        exact (show Tryz.prog.wantsStandIn t = false by simpa using List.all_eq_true.1 hall t hm)⟩)
    (by kernel_rfl)
#print axioms proved
end Go.Proofs.YtllmcnmongaahaaGreatDoor.fnBreaks
