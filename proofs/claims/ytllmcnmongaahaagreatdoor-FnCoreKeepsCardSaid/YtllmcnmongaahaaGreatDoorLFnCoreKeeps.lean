/- FnCoreKeeps: for every input the law returns true, and its arguments read afterwards as they read before. No condition besides those of the statement itself. -/
import Derived.Test.YtllmcnmongaahaaGreatDoorM0
import Derived.Test.YtllmcnmongaahaaGreatDoorCards
import Derived.Test.YtllmcnmongaahaaGreatDoorTie
import Derived.LaidMore
import Derived.SevenTiedAt
import Derived.Stop.Joined
import Derived.Lay
import Derived.Test.YtllmcnmongaahaaGreatDoorM1
import Derived.Test.YtllmcnmongaahaaGreatDoorM3
import Derived.Test.YtllmcnmongaahaaGreatDoorM6
import Derived.ShutString
namespace Go.Proofs.YtllmcnmongaahaaGreatDoor.fnCoreKeeps
open Go.ChangeShapes Go.WideShapes Go.ChangeAt Go.RowKit
set_option maxRecDepth 100000
open Go.ChangeMaps (open_string shut_string)
set_option linter.unusedVariables false

theorem own : ownKnob Tryz.prog.godebug = none := by kernel_rfl

set_option maxHeartbeats 8000000 in
/-- The walk: the Go text returns true. -/
theorem walk (w : World) (hT : Pow10 w) (hE : ErrSyn w) (hM : MaxC w) (v0 : Value) (a0 : List UInt8) (hv0 : RdL w 1 byteEn v0 a0) :
    Calls Tryz.prog 9 #[v0] w fun e w' => e = .returned (.bool true) ∧ Below w.heap.size w w' := by
  have hlM := hM.lt
  have hlT := hT.lt
  have hlE := hE.lt
  have HM := hide hM
  have HT := hide hT
  have HE := hide hE
  have H0 := hide hv0
  clear hv0 hM hT hE
  rcases hbig : decide (4096 < a0.length) with _ | _
  · have hl : a0.length ≤ 4096 := by simpa using hbig
    go_enter Tryz.func9, Tryz.ntmps9
    go_wp2_with fail
    refine (big_c _ _ _ H0.out).mono ?_; rintro e w' ⟨rfl, rfl⟩
    rw [hbig]
    go_wp2_with fail
    refine (drawCallCore_c _ _ _ H0.out hl).mono ?_; rintro e W1 ⟨p, s, x, rfl, o1, hp, hx, BW⟩
    obtain ⟨A, c, rfl, _, _, _⟩ := RdL.open_ o1
    have HP := hide hp
    have HX := hide hx
    clear hp hx hbig
    unfold coreV callV
    rcases hcp : Pu.coreB p with _ | _
    · replace hcp := hide hcp
      have OP := hide o1
      clear o1
      obtain ⟨W2, hW2⟩ : ∃ W, Hid ((W1.alloc (.cells #[.string p.kind, .bool p.on, .bool p.broken, .slice A p.cells.length c, .int .i64 p.count] 31 : Obj)).alloc (.cells #[.string x.method, .string x.key, .int .i64 x.value, .string x.text] 37 : Obj) = W) := ⟨_, rfl⟩
      have b : Below W1.heap.size W1 W2 := by rw [← hW2.out]; exact below_alloc (below_alloc (Below.refl _ _) _) _
      have OP := hide (show RdL W2 2 cellEn (.slice A p.cells.length c) p.cells from RdL.below OP.out b (Nat.le_refl _))
      have BW := below_then BW b
      have RP := hide (show W2.heap[W1.heap.size]? = some (.cells #[.string p.kind, .bool p.on, .bool p.broken, .slice A p.cells.length c, .int .i64 p.count] 31 (0, 0) : Obj) by rw [← hW2.out]; exact heap_old (by simp) (heap_new rfl))
      have RX := hide (show W2.heap[W1.heap.size + 1]? = some (.cells #[.string x.method, .string x.key, .int .i64 x.value, .string x.text] 37 (0, 0) : Obj) by rw [← hW2.out]; exact heap_new (by simp))
      have EP := hide (show ((W1.alloc (.cells #[.string p.kind, .bool p.on, .bool p.broken, .slice A p.cells.length c, .int .i64 p.count] 31 : Obj)).alloc (.cells #[.string x.method, .string x.key, .int .i64 x.value, .string x.text] 37 : Obj)).heap[W1.heap.size]? = some (.cells #[.string p.kind, .bool p.on, .bool p.broken, .slice A p.cells.length c, .int .i64 p.count] 31 (0, 0) : Obj) by rw [hW2.out]; exact RP.out)
      obtain ⟨_, _, _, _, _, _⟩ := five_cells EP.out
      have EX := hide (show ((W1.alloc (.cells #[.string p.kind, .bool p.on, .bool p.broken, .slice A p.cells.length c, .int .i64 p.count] 31 : Obj)).alloc (.cells #[.string x.method, .string x.key, .int .i64 x.value, .string x.text] 37 : Obj)).heap[W1.heap.size + 1]? = some (.cells #[.string x.method, .string x.key, .int .i64 x.value, .string x.text] 37 (0, 0) : Obj) by rw [hW2.out]; exact RX.out)
      obtain ⟨_, _, _, _, _⟩ := four_cells EX.out
      obtain ⟨_, _, _, _, _, _⟩ := five_cells RP.out
      obtain ⟨_, _, _, _, _⟩ := four_cells RX.out
      go_upto_region 4 with fail
      rw [hW2.out]
      go_cut [20] from 9 (fun r wx => r = .bool false ∧ Below W2.heap.size W2 wx)
      case first =>
        have hzP : W1.heap.size < W2.heap.size := (Array.getElem?_eq_some_iff.1 RP.out).1
        have K0 : Below W2.heap.size W2 W2 := Below.refl _ _
        have KD : ∀ w' : World, Below W2.heap.size W2 w' → Below W2.heap.size W2 w'.drew := fun _ h => h.drew
        go_region_held3 (fun w' => Below W2.heap.size W2 w' ∧ w'.cell? ⟨W1.heap.size, 0, none⟩ = some (.string p.kind) ∧ w'.cell? ⟨W1.heap.size, 1, none⟩ = some (.bool p.on) ∧ w'.cell? ⟨W1.heap.size, 2, none⟩ = some (.bool p.broken) ∧ w'.cell? ⟨W1.heap.size, 3, none⟩ = some (.slice A p.cells.length c) ∧ w'.cell? ⟨W1.heap.size, 4, none⟩ = some (.int .i64 p.count)) (go_keep)
          (first
            | (go_at_call 42;
                refine (iIsCore_c p _ _ HP.out.wf ⟨RdL.below OP.out (And.left (by assumption)) (Nat.le_refl _), HP.out.2.2.wf⟩).mono ?_;
                rintro e WI0 ⟨rfl, bI⟩;
                rw [hcp.out];
                have KWWI0 : Below W2.heap.size W2 WI0 := below_then (And.left (by assumption)) bI;
                have KWI00 : ∀ k : Nat, WI0.cell? ⟨W1.heap.size, k, none⟩ = _ := fun k => bI.cell (Nat.lt_of_lt_of_le hzP (Below.size (And.left (by assumption)))))
            | (go_at_call 47;
                refine (sIsCore_c p _ _ ⟨RdL.below OP.out (And.left (by assumption)) (Nat.le_refl _), HP.out.2.2.wf⟩).mono ?_;
                rintro e WI1 ⟨rfl, bI⟩;
                rw [hcp.out];
                have KWWI1 : Below W2.heap.size W2 WI1 := below_then (And.left (by assumption)) bI;
                have KWI10 : ∀ k : Nat, WI1.cell? ⟨W1.heap.size, k, none⟩ = _ := fun k => bI.cell (Nat.lt_of_lt_of_le hzP (Below.size (And.left (by assumption))))))
        all_goals
          go_wp2_with fail
          go_meet
          exact ⟨rfl, by first | exact KWWI0 | exact KWWI1⟩
      case rest =>
      obtain ⟨rfl, b⟩ := hcut
      obtain ⟨W3, hxW3⟩ : ∃ W, wc = W := ⟨_, rfl⟩
      rw [hxW3] at b ⊢
      clear hxW3
      have RP := hide (show W3.heap[W1.heap.size]? = some (.cells #[.string p.kind, .bool p.on, .bool p.broken, .slice A p.cells.length c, .int .i64 p.count] 31 (0, 0) : Obj) from row_on b RP.out)
      have RX := hide (show W3.heap[W1.heap.size + 1]? = some (.cells #[.string x.method, .string x.key, .int .i64 x.value, .string x.text] 37 (0, 0) : Obj) from row_on b RX.out)
      have OP := hide (show RdL W3 2 cellEn (.slice A p.cells.length c) p.cells from RdL.below OP.out b (Nat.le_refl _))
      have BW := below_then BW b
      obtain ⟨_, _, _, _, _, _⟩ := five_cells RP.out
      obtain ⟨_, _, _, _, _⟩ := four_cells RX.out
      go_wp2_with fail
      refine (iIsCore_c p _ _ HP.out.wf ⟨OP.out, HP.out.2.2.wf⟩).mono ?_; rintro e W4 ⟨rfl, b⟩
      have RP := hide (show W4.heap[W1.heap.size]? = some (.cells #[.string p.kind, .bool p.on, .bool p.broken, .slice A p.cells.length c, .int .i64 p.count] 31 (0, 0) : Obj) from row_on b RP.out)
      have RX := hide (show W4.heap[W1.heap.size + 1]? = some (.cells #[.string x.method, .string x.key, .int .i64 x.value, .string x.text] 37 (0, 0) : Obj) from row_on b RX.out)
      have OP := hide (show RdL W4 2 cellEn (.slice A p.cells.length c) p.cells from RdL.below OP.out b (Nat.le_refl _))
      have BW := below_then BW b
      rw [hcp.out]
      obtain ⟨_, _, _, _, _, _⟩ := five_cells RP.out
      obtain ⟨_, _, _, _, _⟩ := four_cells RX.out
      go_wp2
      go_ret
      first | exact ⟨rfl, BW⟩ | exact ⟨rfl, below_drewN BW _⟩
    · replace hcp := hide hcp
      obtain ⟨⟨⟨qk, qo, qb, ql, qn⟩, ⟨qc, qv, qt, qw, qh⟩⟩, HR⟩ : ∃ R : Pu.CoreD × Pu.ReplyD, Hid (Pu.callF p x = R) := ⟨_, rfl⟩
      have hgd := Pu.callF_good (x := x) hcp.out
      rw [HR.out] at hgd
      obtain ⟨hq1, hq2, hq3⟩ := hgd
      dsimp only at hq1 hq2 hq3
      subst hq2
      replace hq1 := hide hq1
      have hql := (good_of hq1.out).2.2.2
      have hwq : CoreD.wf ⟨p.kind, qo, qb, ql, qn⟩ := ⟨HP.out.wf.1, WalkArith.wf_i64 (by have := (good_of hq1.out).2; omega)⟩
      replace hwq := hide hwq
      have OP := hide o1
      clear o1
      obtain ⟨W2, hW2⟩ : ∃ W, Hid ((W1.alloc (.cells #[.string p.kind, .bool p.on, .bool p.broken, .slice A p.cells.length c, .int .i64 p.count] 31 : Obj)).alloc (.cells #[.string x.method, .string x.key, .int .i64 x.value, .string x.text] 37 : Obj) = W) := ⟨_, rfl⟩
      have b : Below W1.heap.size W1 W2 := by rw [← hW2.out]; exact below_alloc (below_alloc (Below.refl _ _) _) _
      have OP := hide (show RdL W2 2 cellEn (.slice A p.cells.length c) p.cells from RdL.below OP.out b (Nat.le_refl _))
      have BW := below_then BW b
      have RP := hide (show W2.heap[W1.heap.size]? = some (.cells #[.string p.kind, .bool p.on, .bool p.broken, .slice A p.cells.length c, .int .i64 p.count] 31 (0, 0) : Obj) by rw [← hW2.out]; exact heap_old (by simp) (heap_new rfl))
      have RX := hide (show W2.heap[W1.heap.size + 1]? = some (.cells #[.string x.method, .string x.key, .int .i64 x.value, .string x.text] 37 (0, 0) : Obj) by rw [← hW2.out]; exact heap_new (by simp))
      have EP := hide (show ((W1.alloc (.cells #[.string p.kind, .bool p.on, .bool p.broken, .slice A p.cells.length c, .int .i64 p.count] 31 : Obj)).alloc (.cells #[.string x.method, .string x.key, .int .i64 x.value, .string x.text] 37 : Obj)).heap[W1.heap.size]? = some (.cells #[.string p.kind, .bool p.on, .bool p.broken, .slice A p.cells.length c, .int .i64 p.count] 31 (0, 0) : Obj) by rw [hW2.out]; exact RP.out)
      obtain ⟨_, _, _, _, _, _⟩ := five_cells EP.out
      have EX := hide (show ((W1.alloc (.cells #[.string p.kind, .bool p.on, .bool p.broken, .slice A p.cells.length c, .int .i64 p.count] 31 : Obj)).alloc (.cells #[.string x.method, .string x.key, .int .i64 x.value, .string x.text] 37 : Obj)).heap[W1.heap.size + 1]? = some (.cells #[.string x.method, .string x.key, .int .i64 x.value, .string x.text] 37 (0, 0) : Obj) by rw [hW2.out]; exact RX.out)
      obtain ⟨_, _, _, _, _⟩ := four_cells EX.out
      obtain ⟨_, _, _, _, _, _⟩ := five_cells RP.out
      obtain ⟨_, _, _, _, _⟩ := four_cells RX.out
      go_upto_region 4 with fail
      rw [hW2.out]
      go_cut [20] from 9 (fun r wx => r = .bool false ∧ Below W2.heap.size W2 wx)
      case first =>
        have hzP : W1.heap.size < W2.heap.size := (Array.getElem?_eq_some_iff.1 RP.out).1
        have K0 : Below W2.heap.size W2 W2 := Below.refl _ _
        have KD : ∀ w' : World, Below W2.heap.size W2 w' → Below W2.heap.size W2 w'.drew := fun _ h => h.drew
        go_region_held3 (fun w' => Below W2.heap.size W2 w' ∧ w'.cell? ⟨W1.heap.size, 0, none⟩ = some (.string p.kind) ∧ w'.cell? ⟨W1.heap.size, 1, none⟩ = some (.bool p.on) ∧ w'.cell? ⟨W1.heap.size, 2, none⟩ = some (.bool p.broken) ∧ w'.cell? ⟨W1.heap.size, 3, none⟩ = some (.slice A p.cells.length c) ∧ w'.cell? ⟨W1.heap.size, 4, none⟩ = some (.int .i64 p.count)) (go_keep)
          (first
            | (go_at_call 42;
                refine (iIsCore_c p _ _ HP.out.wf ⟨RdL.below OP.out (And.left (by assumption)) (Nat.le_refl _), HP.out.2.2.wf⟩).mono ?_;
                rintro e WI0 ⟨rfl, bI⟩;
                rw [hcp.out];
                have KWWI0 : Below W2.heap.size W2 WI0 := below_then (And.left (by assumption)) bI;
                have KWI00 : ∀ k : Nat, WI0.cell? ⟨W1.heap.size, k, none⟩ = _ := fun k => bI.cell (Nat.lt_of_lt_of_le hzP (Below.size (And.left (by assumption)))))
            | (go_at_call 47;
                refine (sIsCore_c p _ _ ⟨RdL.below OP.out (And.left (by assumption)) (Nat.le_refl _), HP.out.2.2.wf⟩).mono ?_;
                rintro e WI1 ⟨rfl, bI⟩;
                rw [hcp.out];
                have KWWI1 : Below W2.heap.size W2 WI1 := below_then (And.left (by assumption)) bI;
                have KWI10 : ∀ k : Nat, WI1.cell? ⟨W1.heap.size, k, none⟩ = _ := fun k => bI.cell (Nat.lt_of_lt_of_le hzP (Below.size (And.left (by assumption))))))
        all_goals
          go_wp2_with fail
          go_meet
          exact ⟨rfl, by first | exact KWWI0 | exact KWWI1⟩
      case rest =>
      obtain ⟨rfl, b⟩ := hcut
      obtain ⟨W3, hxW3⟩ : ∃ W, wc = W := ⟨_, rfl⟩
      rw [hxW3] at b ⊢
      clear hxW3
      have RP := hide (show W3.heap[W1.heap.size]? = some (.cells #[.string p.kind, .bool p.on, .bool p.broken, .slice A p.cells.length c, .int .i64 p.count] 31 (0, 0) : Obj) from row_on b RP.out)
      have RX := hide (show W3.heap[W1.heap.size + 1]? = some (.cells #[.string x.method, .string x.key, .int .i64 x.value, .string x.text] 37 (0, 0) : Obj) from row_on b RX.out)
      have OP := hide (show RdL W3 2 cellEn (.slice A p.cells.length c) p.cells from RdL.below OP.out b (Nat.le_refl _))
      have BW := below_then BW b
      obtain ⟨_, _, _, _, _, _⟩ := five_cells RP.out
      obtain ⟨_, _, _, _, _⟩ := four_cells RX.out
      go_wp2_with fail
      refine (iIsCore_c p _ _ HP.out.wf ⟨OP.out, HP.out.2.2.wf⟩).mono ?_; rintro e W4 ⟨rfl, b⟩
      have RP := hide (show W4.heap[W1.heap.size]? = some (.cells #[.string p.kind, .bool p.on, .bool p.broken, .slice A p.cells.length c, .int .i64 p.count] 31 (0, 0) : Obj) from row_on b RP.out)
      have RX := hide (show W4.heap[W1.heap.size + 1]? = some (.cells #[.string x.method, .string x.key, .int .i64 x.value, .string x.text] 37 (0, 0) : Obj) from row_on b RX.out)
      have OP := hide (show RdL W4 2 cellEn (.slice A p.cells.length c) p.cells from RdL.below OP.out b (Nat.le_refl _))
      have BW := below_then BW b
      rw [hcp.out]
      obtain ⟨_, _, _, _, _, _⟩ := five_cells RP.out
      obtain ⟨_, _, _, _, _⟩ := four_cells RX.out
      go_wp2_with fail
      refine (iCallCore_x p x _ _ p.kind qt qo qb ql qn qc qv qw qh (HM.out.below BW hlM) (HT.out.below BW hlT) (HE.out.below BW hlE) HP.out.wf HX.out.wf ⟨OP.out, HP.out.2.2.wf⟩ (by have := HP.out.2.2.1; omega) HX.out.text HR).mono ?_; rintro e W5 ⟨AW5, cW5, rfl, o5, b⟩
      have RP := hide (show W5.heap[W1.heap.size]? = some (.cells #[.string p.kind, .bool p.on, .bool p.broken, .slice A p.cells.length c, .int .i64 p.count] 31 (0, 0) : Obj) from row_on b RP.out)
      have RX := hide (show W5.heap[W1.heap.size + 1]? = some (.cells #[.string x.method, .string x.key, .int .i64 x.value, .string x.text] 37 (0, 0) : Obj) from row_on b RX.out)
      have OP := hide (show RdL W5 2 cellEn (.slice A p.cells.length c) p.cells from RdL.below OP.out b (Nat.le_refl _))
      have BW := below_then BW b
      have OQ := hide (show RdL W5 2 cellEn (.slice AW5 (ql).length cW5) (ql) from o5.rd (fun _ => rfl))
      clear o5
      obtain ⟨W6, hW6⟩ : ∃ W, Hid ((W5.alloc (.cells #[.string p.kind, .bool qo, .bool qb, .slice AW5 (ql).length cW5, .int .i64 qn] 31 : Obj)).alloc (.cells #[.int .i64 qc, .int .i64 qv, .string qt, .int .i64 qw, .int .i64 qh] 33 : Obj) = W) := ⟨_, rfl⟩
      have b : Below W5.heap.size W5 W6 := by rw [← hW6.out]; exact below_alloc (below_alloc (Below.refl _ _) _) _
      have RP := hide (show W6.heap[W1.heap.size]? = some (.cells #[.string p.kind, .bool p.on, .bool p.broken, .slice A p.cells.length c, .int .i64 p.count] 31 (0, 0) : Obj) from row_on b RP.out)
      have RX := hide (show W6.heap[W1.heap.size + 1]? = some (.cells #[.string x.method, .string x.key, .int .i64 x.value, .string x.text] 37 (0, 0) : Obj) from row_on b RX.out)
      have OP := hide (show RdL W6 2 cellEn (.slice A p.cells.length c) p.cells from RdL.below OP.out b (Nat.le_refl _))
      have OQ := hide (show RdL W6 2 cellEn (.slice AW5 (ql).length cW5) ql from RdL.below OQ.out b (Nat.le_refl _))
      have BW := below_then BW b
      have RQ := hide (show W6.heap[W5.heap.size]? = some (.cells #[.string p.kind, .bool qo, .bool qb, .slice AW5 (ql).length cW5, .int .i64 qn] 31 (0, 0) : Obj) by rw [← hW6.out]; exact heap_old (by simp) (heap_new rfl))
      have RR := hide (show W6.heap[W5.heap.size + 1]? = some (.cells #[.int .i64 qc, .int .i64 qv, .string qt, .int .i64 qw, .int .i64 qh] 33 (0, 0) : Obj) by rw [← hW6.out]; exact heap_new (by simp))
      have EP := hide (show ((W5.alloc (.cells #[.string p.kind, .bool qo, .bool qb, .slice AW5 (ql).length cW5, .int .i64 qn] 31 : Obj)).alloc (.cells #[.int .i64 qc, .int .i64 qv, .string qt, .int .i64 qw, .int .i64 qh] 33 : Obj)).heap[W1.heap.size]? = some (.cells #[.string p.kind, .bool p.on, .bool p.broken, .slice A p.cells.length c, .int .i64 p.count] 31 (0, 0) : Obj) by rw [hW6.out]; exact RP.out)
      obtain ⟨_, _, _, _, _, _⟩ := five_cells EP.out
      have EX := hide (show ((W5.alloc (.cells #[.string p.kind, .bool qo, .bool qb, .slice AW5 (ql).length cW5, .int .i64 qn] 31 : Obj)).alloc (.cells #[.int .i64 qc, .int .i64 qv, .string qt, .int .i64 qw, .int .i64 qh] 33 : Obj)).heap[W1.heap.size + 1]? = some (.cells #[.string x.method, .string x.key, .int .i64 x.value, .string x.text] 37 (0, 0) : Obj) by rw [hW6.out]; exact RX.out)
      obtain ⟨_, _, _, _, _⟩ := four_cells EX.out
      have EQ := hide (show ((W5.alloc (.cells #[.string p.kind, .bool qo, .bool qb, .slice AW5 (ql).length cW5, .int .i64 qn] 31 : Obj)).alloc (.cells #[.int .i64 qc, .int .i64 qv, .string qt, .int .i64 qw, .int .i64 qh] 33 : Obj)).heap[W5.heap.size]? = some (.cells #[.string p.kind, .bool qo, .bool qb, .slice AW5 (ql).length cW5, .int .i64 qn] 31 (0, 0) : Obj) by rw [hW6.out]; exact RQ.out)
      obtain ⟨_, _, _, _, _, _⟩ := five_cells EQ.out
      have ER := hide (show ((W5.alloc (.cells #[.string p.kind, .bool qo, .bool qb, .slice AW5 (ql).length cW5, .int .i64 qn] 31 : Obj)).alloc (.cells #[.int .i64 qc, .int .i64 qv, .string qt, .int .i64 qw, .int .i64 qh] 33 : Obj)).heap[W5.heap.size + 1]? = some (.cells #[.int .i64 qc, .int .i64 qv, .string qt, .int .i64 qw, .int .i64 qh] 33 (0, 0) : Obj) by rw [hW6.out]; exact RR.out)
      obtain ⟨_, _, _, _, _, _⟩ := five_cells ER.out
      obtain ⟨sm, hsm⟩ : ∃ sm, Hid (Pu.sameCore p ⟨p.kind, qo, qb, ql, qn⟩ = sm) := ⟨_, rfl⟩
      have hall : sm = true ∨ (¬ qc = 2 ∧ ¬ qc = 4 ∧ ¬ qc = 5 ∧ ¬ qc = 6) := by
        rcases hq3 with h | h | h
        · exact .inr (by omega)
        · exact .inr (by omega)
        · left; rw [← hsm.out, h]; exact sameCore_refl p
      clear hq3
      obtain ⟨_, _, _, _, _, _⟩ := five_cells RP.out
      obtain ⟨_, _, _, _, _⟩ := four_cells RX.out
      obtain ⟨_, _, _, _, _, _⟩ := five_cells RQ.out
      obtain ⟨_, _, _, _, _, _⟩ := five_cells RR.out
      go_wp2_with fail
      rw [hW6.out]
      refine (iSameCore_c p ⟨p.kind, qo, qb, ql, qn⟩ _ _ _ OP.out OQ.out).mono ?_; rintro e W7 ⟨rfl, b⟩
      have RP := hide (show W7.heap[W1.heap.size]? = some (.cells #[.string p.kind, .bool p.on, .bool p.broken, .slice A p.cells.length c, .int .i64 p.count] 31 (0, 0) : Obj) from row_on b RP.out)
      have RX := hide (show W7.heap[W1.heap.size + 1]? = some (.cells #[.string x.method, .string x.key, .int .i64 x.value, .string x.text] 37 (0, 0) : Obj) from row_on b RX.out)
      have RQ := hide (show W7.heap[W5.heap.size]? = some (.cells #[.string p.kind, .bool qo, .bool qb, .slice AW5 (ql).length cW5, .int .i64 qn] 31 (0, 0) : Obj) from row_on b RQ.out)
      have RR := hide (show W7.heap[W5.heap.size + 1]? = some (.cells #[.int .i64 qc, .int .i64 qv, .string qt, .int .i64 qw, .int .i64 qh] 33 (0, 0) : Obj) from row_on b RR.out)
      have OP := hide (show RdL W7 2 cellEn (.slice A p.cells.length c) p.cells from RdL.below OP.out b (Nat.le_refl _))
      have OQ := hide (show RdL W7 2 cellEn (.slice AW5 (ql).length cW5) ql from RdL.below OQ.out b (Nat.le_refl _))
      have BW := below_then BW b
      rw [hsm.out]
      have hcs : qc = 2 ∨ qc = 4 ∨ qc = 5 ∨ qc = 6 ∨ (¬ qc = 2 ∧ ¬ qc = 4 ∧ ¬ qc = 5 ∧ ¬ qc = 6) := by omega
      obtain ⟨_, _, _, _, _, _⟩ := five_cells RP.out
      obtain ⟨_, _, _, _, _⟩ := four_cells RX.out
      obtain ⟨_, _, _, _, _, _⟩ := five_cells RQ.out
      obtain ⟨_, _, _, _, _, _⟩ := five_cells RR.out
      rcases hcs with rfl | hcs
      · obtain rfl : sm = true := by rcases hall with h | h; exact h; omega
        obtain ⟨_, _, _, _, _, _⟩ := five_cells RP.out
        obtain ⟨_, _, _, _, _⟩ := four_cells RX.out
        obtain ⟨_, _, _, _, _, _⟩ := five_cells RQ.out
        obtain ⟨_, _, _, _, _, _⟩ := five_cells RR.out
        go_wp2_with fail
        refine (iIsCore_c ⟨p.kind, qo, qb, ql, qn⟩ _ _ hwq.out ⟨OQ.out, hql.2⟩).mono ?_; rintro e W8 ⟨rfl, b⟩
        have RP := hide (show W8.heap[W1.heap.size]? = some (.cells #[.string p.kind, .bool p.on, .bool p.broken, .slice A p.cells.length c, .int .i64 p.count] 31 (0, 0) : Obj) from row_on b RP.out)
        have RX := hide (show W8.heap[W1.heap.size + 1]? = some (.cells #[.string x.method, .string x.key, .int .i64 x.value, .string x.text] 37 (0, 0) : Obj) from row_on b RX.out)
        have RQ := hide (show W8.heap[W5.heap.size]? = some (.cells #[.string p.kind, .bool qo, .bool qb, .slice AW5 (ql).length cW5, .int .i64 qn] 31 (0, 0) : Obj) from row_on b RQ.out)
        have RR := hide (show W8.heap[W5.heap.size + 1]? = some (.cells #[.int .i64 2, .int .i64 qv, .string qt, .int .i64 qw, .int .i64 qh] 33 (0, 0) : Obj) from row_on b RR.out)
        have OP := hide (show RdL W8 2 cellEn (.slice A p.cells.length c) p.cells from RdL.below OP.out b (Nat.le_refl _))
        have OQ := hide (show RdL W8 2 cellEn (.slice AW5 (ql).length cW5) ql from RdL.below OQ.out b (Nat.le_refl _))
        have BW := below_then BW b
        rw [hq1.out]
        obtain ⟨_, _, _, _, _, _⟩ := five_cells RP.out
        obtain ⟨_, _, _, _, _⟩ := four_cells RX.out
        obtain ⟨_, _, _, _, _, _⟩ := five_cells RQ.out
        obtain ⟨_, _, _, _, _, _⟩ := five_cells RR.out
        go_wp2
        go_ret
        exact ⟨rfl, BW⟩
      rcases hcs with rfl | hcs
      · obtain rfl : sm = true := by rcases hall with h | h; exact h; omega
        obtain ⟨_, _, _, _, _, _⟩ := five_cells RP.out
        obtain ⟨_, _, _, _, _⟩ := four_cells RX.out
        obtain ⟨_, _, _, _, _, _⟩ := five_cells RQ.out
        obtain ⟨_, _, _, _, _, _⟩ := five_cells RR.out
        go_wp2_with fail
        refine (iIsCore_c ⟨p.kind, qo, qb, ql, qn⟩ _ _ hwq.out ⟨OQ.out, hql.2⟩).mono ?_; rintro e W8 ⟨rfl, b⟩
        have RP := hide (show W8.heap[W1.heap.size]? = some (.cells #[.string p.kind, .bool p.on, .bool p.broken, .slice A p.cells.length c, .int .i64 p.count] 31 (0, 0) : Obj) from row_on b RP.out)
        have RX := hide (show W8.heap[W1.heap.size + 1]? = some (.cells #[.string x.method, .string x.key, .int .i64 x.value, .string x.text] 37 (0, 0) : Obj) from row_on b RX.out)
        have RQ := hide (show W8.heap[W5.heap.size]? = some (.cells #[.string p.kind, .bool qo, .bool qb, .slice AW5 (ql).length cW5, .int .i64 qn] 31 (0, 0) : Obj) from row_on b RQ.out)
        have RR := hide (show W8.heap[W5.heap.size + 1]? = some (.cells #[.int .i64 4, .int .i64 qv, .string qt, .int .i64 qw, .int .i64 qh] 33 (0, 0) : Obj) from row_on b RR.out)
        have OP := hide (show RdL W8 2 cellEn (.slice A p.cells.length c) p.cells from RdL.below OP.out b (Nat.le_refl _))
        have OQ := hide (show RdL W8 2 cellEn (.slice AW5 (ql).length cW5) ql from RdL.below OQ.out b (Nat.le_refl _))
        have BW := below_then BW b
        rw [hq1.out]
        obtain ⟨_, _, _, _, _, _⟩ := five_cells RP.out
        obtain ⟨_, _, _, _, _⟩ := four_cells RX.out
        obtain ⟨_, _, _, _, _, _⟩ := five_cells RQ.out
        obtain ⟨_, _, _, _, _, _⟩ := five_cells RR.out
        go_wp2
        go_ret
        exact ⟨rfl, BW⟩
      rcases hcs with rfl | hcs
      · obtain rfl : sm = true := by rcases hall with h | h; exact h; omega
        obtain ⟨_, _, _, _, _, _⟩ := five_cells RP.out
        obtain ⟨_, _, _, _, _⟩ := four_cells RX.out
        obtain ⟨_, _, _, _, _, _⟩ := five_cells RQ.out
        obtain ⟨_, _, _, _, _, _⟩ := five_cells RR.out
        go_wp2_with fail
        refine (iIsCore_c ⟨p.kind, qo, qb, ql, qn⟩ _ _ hwq.out ⟨OQ.out, hql.2⟩).mono ?_; rintro e W8 ⟨rfl, b⟩
        have RP := hide (show W8.heap[W1.heap.size]? = some (.cells #[.string p.kind, .bool p.on, .bool p.broken, .slice A p.cells.length c, .int .i64 p.count] 31 (0, 0) : Obj) from row_on b RP.out)
        have RX := hide (show W8.heap[W1.heap.size + 1]? = some (.cells #[.string x.method, .string x.key, .int .i64 x.value, .string x.text] 37 (0, 0) : Obj) from row_on b RX.out)
        have RQ := hide (show W8.heap[W5.heap.size]? = some (.cells #[.string p.kind, .bool qo, .bool qb, .slice AW5 (ql).length cW5, .int .i64 qn] 31 (0, 0) : Obj) from row_on b RQ.out)
        have RR := hide (show W8.heap[W5.heap.size + 1]? = some (.cells #[.int .i64 5, .int .i64 qv, .string qt, .int .i64 qw, .int .i64 qh] 33 (0, 0) : Obj) from row_on b RR.out)
        have OP := hide (show RdL W8 2 cellEn (.slice A p.cells.length c) p.cells from RdL.below OP.out b (Nat.le_refl _))
        have OQ := hide (show RdL W8 2 cellEn (.slice AW5 (ql).length cW5) ql from RdL.below OQ.out b (Nat.le_refl _))
        have BW := below_then BW b
        rw [hq1.out]
        obtain ⟨_, _, _, _, _, _⟩ := five_cells RP.out
        obtain ⟨_, _, _, _, _⟩ := four_cells RX.out
        obtain ⟨_, _, _, _, _, _⟩ := five_cells RQ.out
        obtain ⟨_, _, _, _, _, _⟩ := five_cells RR.out
        go_wp2
        go_ret
        exact ⟨rfl, BW⟩
      rcases hcs with rfl | hcs
      · obtain rfl : sm = true := by rcases hall with h | h; exact h; omega
        obtain ⟨_, _, _, _, _, _⟩ := five_cells RP.out
        obtain ⟨_, _, _, _, _⟩ := four_cells RX.out
        obtain ⟨_, _, _, _, _, _⟩ := five_cells RQ.out
        obtain ⟨_, _, _, _, _, _⟩ := five_cells RR.out
        go_wp2_with fail
        refine (iIsCore_c ⟨p.kind, qo, qb, ql, qn⟩ _ _ hwq.out ⟨OQ.out, hql.2⟩).mono ?_; rintro e W8 ⟨rfl, b⟩
        have RP := hide (show W8.heap[W1.heap.size]? = some (.cells #[.string p.kind, .bool p.on, .bool p.broken, .slice A p.cells.length c, .int .i64 p.count] 31 (0, 0) : Obj) from row_on b RP.out)
        have RX := hide (show W8.heap[W1.heap.size + 1]? = some (.cells #[.string x.method, .string x.key, .int .i64 x.value, .string x.text] 37 (0, 0) : Obj) from row_on b RX.out)
        have RQ := hide (show W8.heap[W5.heap.size]? = some (.cells #[.string p.kind, .bool qo, .bool qb, .slice AW5 (ql).length cW5, .int .i64 qn] 31 (0, 0) : Obj) from row_on b RQ.out)
        have RR := hide (show W8.heap[W5.heap.size + 1]? = some (.cells #[.int .i64 6, .int .i64 qv, .string qt, .int .i64 qw, .int .i64 qh] 33 (0, 0) : Obj) from row_on b RR.out)
        have OP := hide (show RdL W8 2 cellEn (.slice A p.cells.length c) p.cells from RdL.below OP.out b (Nat.le_refl _))
        have OQ := hide (show RdL W8 2 cellEn (.slice AW5 (ql).length cW5) ql from RdL.below OQ.out b (Nat.le_refl _))
        have BW := below_then BW b
        rw [hq1.out]
        obtain ⟨_, _, _, _, _, _⟩ := five_cells RP.out
        obtain ⟨_, _, _, _, _⟩ := four_cells RX.out
        obtain ⟨_, _, _, _, _, _⟩ := five_cells RQ.out
        obtain ⟨_, _, _, _, _, _⟩ := five_cells RR.out
        go_wp2
        go_ret
        exact ⟨rfl, BW⟩
      obtain ⟨n2, n4, n5, n6⟩ := hcs
      have b2 : (qc == 2) = false := by simp [n2]
      have b4 : (qc == 4) = false := by simp [n4]
      have b5 : (qc == 5) = false := by simp [n5]
      have b6 : (qc == 6) = false := by simp [n6]
      rcases (by cases sm <;> simp : sm = true ∨ sm = false) with rfl | rfl
      all_goals
        obtain ⟨_, _, _, _, _, _⟩ := five_cells RP.out
        obtain ⟨_, _, _, _, _⟩ := four_cells RX.out
        obtain ⟨_, _, _, _, _, _⟩ := five_cells RQ.out
        obtain ⟨_, _, _, _, _, _⟩ := five_cells RR.out
        go_wp2_with fail
        refine (iIsCore_c ⟨p.kind, qo, qb, ql, qn⟩ _ _ hwq.out ⟨OQ.out, hql.2⟩).mono ?_; rintro e W8 ⟨rfl, b⟩
        have RP := hide (show W8.heap[W1.heap.size]? = some (.cells #[.string p.kind, .bool p.on, .bool p.broken, .slice A p.cells.length c, .int .i64 p.count] 31 (0, 0) : Obj) from row_on b RP.out)
        have RX := hide (show W8.heap[W1.heap.size + 1]? = some (.cells #[.string x.method, .string x.key, .int .i64 x.value, .string x.text] 37 (0, 0) : Obj) from row_on b RX.out)
        have RQ := hide (show W8.heap[W5.heap.size]? = some (.cells #[.string p.kind, .bool qo, .bool qb, .slice AW5 (ql).length cW5, .int .i64 qn] 31 (0, 0) : Obj) from row_on b RQ.out)
        have RR := hide (show W8.heap[W5.heap.size + 1]? = some (.cells #[.int .i64 qc, .int .i64 qv, .string qt, .int .i64 qw, .int .i64 qh] 33 (0, 0) : Obj) from row_on b RR.out)
        have OP := hide (show RdL W8 2 cellEn (.slice A p.cells.length c) p.cells from RdL.below OP.out b (Nat.le_refl _))
        have OQ := hide (show RdL W8 2 cellEn (.slice AW5 (ql).length cW5) ql from RdL.below OQ.out b (Nat.le_refl _))
        have BW := below_then BW b
        rw [hq1.out]
        obtain ⟨_, _, _, _, _, _⟩ := five_cells RP.out
        obtain ⟨_, _, _, _, _⟩ := four_cells RX.out
        obtain ⟨_, _, _, _, _, _⟩ := five_cells RQ.out
        obtain ⟨_, _, _, _, _, _⟩ := five_cells RR.out
        go_wp2
        all_goals go_ret
        all_goals exact ⟨rfl, BW⟩
  · go_enter Tryz.func9, Tryz.ntmps9
    go_wp2_with fail
    refine (big_c _ _ _ H0.out).mono ?_; rintro e w' ⟨rfl, rfl⟩
    rw [hbig]
    go_wp2
    go_ret
    exact ⟨rfl, Below.refl _ _⟩

/-- The laid heap meets the condition. -/
theorem door_met (os : Os) (args : Array Value) : laidMetH Tryz.prog Rows.fnCoreKeepsRow.laid ((World.laidAll Tryz.prog os Rows.fnCoreKeepsRow.laid).forCall (fun _ _ => 0) ⟨#[], args, []⟩).memory := by
  rw [MakeChecks.laidMetH_plain _ _ _ (by kernel_rfl)]
  exact laidMet_laidAll _ (by kernel_rfl) (by kernel_rfl)

set_option maxRecDepth 100000 in
theorem lifted (os : Os) (started : os.Started) (H : Type) (enc : TypeId × Value → H) :
    ReturnsInHanded {} Tryz.checked os 9 .any (fun w args => (Rows.fnCoreKeepsSpec.pre enc Tryz.prog Tryz.f9 [] false w args ∧ laidMetH Tryz.prog Rows.fnCoreKeepsRow.laid w) ∧ sizedMet enc Tryz.prog Tryz.f9 (OpenSpec.ofChange Rows.fnCoreKeepsSpec) false w args) (Rows.fnCoreKeepsSpec.post enc Tryz.prog Tryz.f9 false true false false) := by
  refine wrapV (C := Tryz.checked) (X := fun w _ => laidMetH Tryz.prog Rows.fnCoreKeepsRow.laid w) (fun _ _ _ hh h => h.of_heap hh) own started (by kernel_rfl) Tryz.func9
    (ChangeSpec.witness_shaped (enc := enc) (C := Tryz.checked) (os := os) (X := fun w _ => laidMetH Tryz.prog Rows.fnCoreKeepsRow.laid w) false (World.laidAll Tryz.prog os Rows.fnCoreKeepsRow.laid) #[.slice none 0 0] 8 (World.laidAll_os _ _ _) (World.shaped_of_ZipB (by kernel_rfl) (by kernel_rfl)) (by kernel_rfl) (by kernel_rfl) (by kernel_rfl) (door_met os _)) ?_
  intro W base args ds gs before hval0 hW hL hS
  have hval : ∀ (j : Nat) t v, Tryz.f9.params[j]? = some t → args[j]? = some v → Value.okWide Tryz.prog W .any base t v := hval0
  have hW' := hW
  obtain ⟨p, q, hA0, hV, rfl, hfz, hnd⟩ := hW
  have hA : DataW.TrodAll enc Tryz.prog W 0 (fun _ => true) true Tryz.f9.params.toList args.toList ds p := hA0
  rw [Tryz.params9] at hA hval
  obtain ⟨v0, vs0, d0, ds0, p0, q0, hargs, rfl, rfl, h0, r0⟩ := trodAll_cons hA
  obtain ⟨rfl, rfl, rfl⟩ := trodAll_nil r0
  obtain rfl : args = #[v0] := by cases args; simp_all
  obtain ⟨rfl, rfl⟩ := trodVars_none hV
  obtain ⟨a0, hv0⟩ := open_bytes (hval 0 55 v0 rfl rfl) h0
  refine (walk W (pow10_of (met_reads hL (by kernel_rfl) (.tail _ (.tail _ (.head _))))) (errsyn_of (met_reads hL (by kernel_rfl) (.tail _ (.tail _ (.tail _ (.tail _ (.tail _ (.head _)))))))) (maxc_of hS) v0 a0 hv0).mono fun e W' ⟨he, hg⟩ => ?_
  subst he
  exact ⟨_, rfl, law_postV (tb := 4) (by kernel_rfl) (by kernel_rfl) (by kernel_rfl) hW' hg rfl Tryz.underlying4 rfl rfl rfl⟩

theorem over : Rows.FnCoreKeepsSaid :=
  OpenClaim.holds_of_wide 9 Tryz.f9 rfl rfl rfl rfl rfl rfl rfl ⟨rfl, rfl, rfl, rfl, rfl⟩ rfl rfl rfl rfl rfl (by kernel_rfl) Tryz.func9 (by kernel_rfl)
    (of_decide_eq_true (by kernel_rfl)) (by unfold Func.isWrapper; first | (rw [if_pos (by decide +kernel)]; kernel_rfl) | (rw [if_neg (by decide +kernel)]; exact ⟨rfl, rfl⟩))
    (fun os started H enc _ => lifted os started H enc)

/-- The statement: the tied card. -/
theorem proved : Rows.FnCoreKeepsCardSaid :=
  Claim7.holds_tied_plain_at .later [] [.data, .data, .data, .data, .sentinel, .sentinel, .pinned] true (true, "15f444c23c93b2403839749698f01a757c47729f86feb889b0929fa11f9b21ff") true over (fun _ h => by cases h) (by kernel_rfl) (fun _ h => by cases h) fnCoreKeeps_row_tie rfl ⟨rfl, rfl⟩ (by kernel_rfl) rfl
    (fun f fn hf hfn => by
      obtain rfl : 9 = f := Option.some.inj ((show Tryz.prog.funcNamed Rows.fnCoreKeepsRow.func = some 9 by kernel_rfl).symm.trans hf)
      obtain rfl : Tryz.f9 = fn := Option.some.inj (Tryz.func9.symm.trans hfn)
      exact ⟨by kernel_rfl, fun j t ht => by
        rw [Tryz.params9] at ht
        have hm : t ∈ [55] := by simpa using Array.mem_of_getElem? ht
        have hall : ([55].all fun u => !Tryz.prog.wantsStandIn u) = true := by kernel_rfl
        exact (show Tryz.prog.wantsStandIn t = false by simpa using List.all_eq_true.1 hall t hm)⟩)
    (by kernel_rfl)
#print axioms proved
end Go.Proofs.YtllmcnmongaahaaGreatDoor.fnCoreKeeps
