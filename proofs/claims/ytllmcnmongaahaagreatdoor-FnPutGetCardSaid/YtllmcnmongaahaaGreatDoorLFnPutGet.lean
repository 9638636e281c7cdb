/- FnPutGet: for every input the law returns true, and its arguments read afterwards as they read before. No condition besides those of the statement itself. -/
import Derived.Test.YtllmcnmongaahaaGreatDoorM0
import Derived.Test.YtllmcnmongaahaaGreatDoorCards
import Derived.Test.YtllmcnmongaahaaGreatDoorTie
import Derived.LaidMore
import Derived.SevenTiedAt
import Derived.Stop.Joined
import Derived.Lay
import Derived.Test.YtllmcnmongaahaaGreatDoorM1
import Derived.Test.YtllmcnmongaahaaGreatDoorInv3
import Derived.Test.YtllmcnmongaahaaGreatDoorM3
import Derived.Test.YtllmcnmongaahaaGreatDoorM6
import Derived.ShutString
namespace Go.Proofs.YtllmcnmongaahaaGreatDoor.fnPutGet
open Go.ChangeShapes Go.WideShapes Go.ChangeAt Go.RowKit
set_option maxRecDepth 100000
open Go.ChangeMaps (open_string shut_string)
set_option linter.unusedVariables false

theorem own : ownKnob Tryz.prog.godebug = none := by kernel_rfl

set_option maxHeartbeats 8000000 in
/-- The walk: the Go text returns true. -/
theorem walk (w : World) (hT : Pow10 w) (hE : ErrSyn w) (hM : MaxC w) (v0 : Value) (a0 : List UInt8) (hv0 : RdL w 1 byteEn v0 a0) :
    Calls Tryz.prog 6 #[v0] w fun e w' => e = .returned (.bool true) ∧ Below w.heap.size w w' := by
  have hlM := hM.lt
  have hlT := hT.lt
  have hlE := hE.lt
  have HM := hide hM
  have HT := hide hT
  have HE := hide hE
  have H0 := hide hv0
  clear hv0 hM hT hE
  rcases hbig : decide (4096 < a0.length) with _ | _
  · have hl : a0.length ≤ 4096 := by simpa using hbig
    go_enter Tryz.func6, Tryz.ntmps6
    go_wp2_with fail
    refine (big_c _ _ _ H0.out).mono ?_; rintro e w' ⟨rfl, rfl⟩
    rw [hbig]
    go_wp2_with fail
    refine (drawCallCore_c _ _ _ H0.out hl).mono ?_; rintro e W1 ⟨p, s, x, rfl, o1, hp, hx, BW⟩
    obtain ⟨A, c, rfl, _, _, _⟩ := RdL.open_ o1
    have HP := hide hp
    have HX := hide hx
    clear hp hx hbig
    unfold coreV callV
    obtain ⟨xm, xk, xv, xt⟩ := x
    have hxw : CallD.wf (⟨⟨#[80, 117, 116]⟩, xk, xv, xt⟩ : Pu.CallD) := ⟨(by show 3 ≤ maxLen; decide), HX.out.wf.2.1, HX.out.wf.2.2.1, HX.out.wf.2.2.2⟩
    replace hxw := hide hxw
    have hxt : (⟨⟨#[80, 117, 116]⟩, xk, xv, xt⟩ : Pu.CallD).text.size ≤ 1048576 := HX.out.text
    replace hxt := hide hxt
    obtain ⟨⟨⟨qk, qo, qb, ql, qn⟩, ⟨qc, qv, qt, qw, qh⟩⟩, HR⟩ : ∃ R : Pu.CoreD × Pu.ReplyD, Hid (Pu.callF p (⟨⟨#[80, 117, 116]⟩, xk, xv, xt⟩ : Pu.CallD) = R) := ⟨_, rfl⟩
    have OP := hide o1
    clear o1
    obtain ⟨W2, hW2⟩ : ∃ W, Hid ((W1.alloc (.cells #[.string p.kind, .bool p.on, .bool p.broken, .slice A p.cells.length c, .int .i64 p.count] 31 : Obj)).alloc (.cells #[.string ⟨#[80, 117, 116]⟩, .string xk, .int .i64 xv, .string xt] 37 : Obj) = W) := ⟨_, rfl⟩
    have b : Below W1.heap.size W1 W2 := by rw [← hW2.out]; exact below_alloc (below_alloc (Below.refl _ _) _) _
    have OP := hide (show RdL W2 2 cellEn (.slice A p.cells.length c) p.cells from RdL.below OP.out b (Nat.le_refl _))
    have BW := below_then BW b
    have RP := hide (show W2.heap[W1.heap.size]? = some (.cells #[.string p.kind, .bool p.on, .bool p.broken, .slice A p.cells.length c, .int .i64 p.count] 31 (0, 0) : Obj) by rw [← hW2.out]; exact heap_old (by simp) (heap_new rfl))
    have RX := hide (show W2.heap[W1.heap.size + 1]? = some (.cells #[.string ⟨#[80, 117, 116]⟩, .string xk, .int .i64 xv, .string xt] 37 (0, 0) : Obj) by rw [← hW2.out]; exact heap_new (by simp))
    have EP := hide (show ((W1.alloc (.cells #[.string p.kind, .bool p.on, .bool p.broken, .slice A p.cells.length c, .int .i64 p.count] 31 : Obj)).alloc (.cells #[.string ⟨#[80, 117, 116]⟩, .string xk, .int .i64 xv, .string xt] 37 : Obj)).heap[W1.heap.size]? = some (.cells #[.string p.kind, .bool p.on, .bool p.broken, .slice A p.cells.length c, .int .i64 p.count] 31 (0, 0) : Obj) by rw [hW2.out]; exact RP.out)
    obtain ⟨_, _, _, _, _, _⟩ := five_cells EP.out
    have EX := hide (show ((W1.alloc (.cells #[.string p.kind, .bool p.on, .bool p.broken, .slice A p.cells.length c, .int .i64 p.count] 31 : Obj)).alloc (.cells #[.string ⟨#[80, 117, 116]⟩, .string xk, .int .i64 xv, .string xt] 37 : Obj)).heap[W1.heap.size + 1]? = some (.cells #[.string ⟨#[80, 117, 116]⟩, .string xk, .int .i64 xv, .string xt] 37 (0, 0) : Obj) by rw [hW2.out]; exact RX.out)
    obtain ⟨_, _, _, _, _⟩ := four_cells EX.out
    obtain ⟨_, _, _, _, _, _⟩ := five_cells RP.out
    obtain ⟨_, _, _, _, _⟩ := four_cells RX.out
    go_wp2_with fail
    rw [hW2.out]
    refine (iCallCore_x p (⟨⟨#[80, 117, 116]⟩, xk, xv, xt⟩ : Pu.CallD) _ _ qk qt qo qb ql qn qc qv qw qh (HM.out.below BW hlM) (HT.out.below BW hlT) (HE.out.below BW hlE) HP.out.wf hxw.out ⟨OP.out, HP.out.2.2.wf⟩ (by have := HP.out.2.2.1; omega) hxt.out HR).mono ?_; rintro e W3 ⟨AW3, cW3, rfl, o5, b⟩
    have RP := hide (show W3.heap[W1.heap.size]? = some (.cells #[.string p.kind, .bool p.on, .bool p.broken, .slice A p.cells.length c, .int .i64 p.count] 31 (0, 0) : Obj) from row_on b RP.out)
    have RX := hide (show W3.heap[W1.heap.size + 1]? = some (.cells #[.string ⟨#[80, 117, 116]⟩, .string xk, .int .i64 xv, .string xt] 37 (0, 0) : Obj) from row_on b RX.out)
    have OP := hide (show RdL W3 2 cellEn (.slice A p.cells.length c) p.cells from RdL.below OP.out b (Nat.le_refl _))
    have BW := below_then BW b
    have OQ := hide (show RdL W3 2 cellEn (.slice AW3 (ql).length cW3) (ql) from o5.rd (fun _ => rfl))
    clear o5
    obtain ⟨W4, hW4⟩ : ∃ W, Hid ((W3.alloc (.cells #[.string qk, .bool qo, .bool qb, .slice AW3 (ql).length cW3, .int .i64 qn] 31 : Obj)).alloc (.cells #[.int .i64 qc, .int .i64 qv, .string qt, .int .i64 qw, .int .i64 qh] 33 : Obj) = W) := ⟨_, rfl⟩
    have b : Below W3.heap.size W3 W4 := by rw [← hW4.out]; exact below_alloc (below_alloc (Below.refl _ _) _) _
    have RP := hide (show W4.heap[W1.heap.size]? = some (.cells #[.string p.kind, .bool p.on, .bool p.broken, .slice A p.cells.length c, .int .i64 p.count] 31 (0, 0) : Obj) from row_on b RP.out)
    have RX := hide (show W4.heap[W1.heap.size + 1]? = some (.cells #[.string ⟨#[80, 117, 116]⟩, .string xk, .int .i64 xv, .string xt] 37 (0, 0) : Obj) from row_on b RX.out)
    have OP := hide (show RdL W4 2 cellEn (.slice A p.cells.length c) p.cells from RdL.below OP.out b (Nat.le_refl _))
    have OQ := hide (show RdL W4 2 cellEn (.slice AW3 (ql).length cW3) ql from RdL.below OQ.out b (Nat.le_refl _))
    have BW := below_then BW b
    have RQ := hide (show W4.heap[W3.heap.size]? = some (.cells #[.string qk, .bool qo, .bool qb, .slice AW3 (ql).length cW3, .int .i64 qn] 31 (0, 0) : Obj) by rw [← hW4.out]; exact heap_old (by simp) (heap_new rfl))
    have RR := hide (show W4.heap[W3.heap.size + 1]? = some (.cells #[.int .i64 qc, .int .i64 qv, .string qt, .int .i64 qw, .int .i64 qh] 33 (0, 0) : Obj) by rw [← hW4.out]; exact heap_new (by simp))
    have EP := hide (show ((W3.alloc (.cells #[.string qk, .bool qo, .bool qb, .slice AW3 (ql).length cW3, .int .i64 qn] 31 : Obj)).alloc (.cells #[.int .i64 qc, .int .i64 qv, .string qt, .int .i64 qw, .int .i64 qh] 33 : Obj)).heap[W1.heap.size]? = some (.cells #[.string p.kind, .bool p.on, .bool p.broken, .slice A p.cells.length c, .int .i64 p.count] 31 (0, 0) : Obj) by rw [hW4.out]; exact RP.out)
    obtain ⟨_, _, _, _, _, _⟩ := five_cells EP.out
    have EX := hide (show ((W3.alloc (.cells #[.string qk, .bool qo, .bool qb, .slice AW3 (ql).length cW3, .int .i64 qn] 31 : Obj)).alloc (.cells #[.int .i64 qc, .int .i64 qv, .string qt, .int .i64 qw, .int .i64 qh] 33 : Obj)).heap[W1.heap.size + 1]? = some (.cells #[.string ⟨#[80, 117, 116]⟩, .string xk, .int .i64 xv, .string xt] 37 (0, 0) : Obj) by rw [hW4.out]; exact RX.out)
    obtain ⟨_, _, _, _, _⟩ := four_cells EX.out
    have EQ := hide (show ((W3.alloc (.cells #[.string qk, .bool qo, .bool qb, .slice AW3 (ql).length cW3, .int .i64 qn] 31 : Obj)).alloc (.cells #[.int .i64 qc, .int .i64 qv, .string qt, .int .i64 qw, .int .i64 qh] 33 : Obj)).heap[W3.heap.size]? = some (.cells #[.string qk, .bool qo, .bool qb, .slice AW3 (ql).length cW3, .int .i64 qn] 31 (0, 0) : Obj) by rw [hW4.out]; exact RQ.out)
    obtain ⟨_, _, _, _, _, _⟩ := five_cells EQ.out
    have ER := hide (show ((W3.alloc (.cells #[.string qk, .bool qo, .bool qb, .slice AW3 (ql).length cW3, .int .i64 qn] 31 : Obj)).alloc (.cells #[.int .i64 qc, .int .i64 qv, .string qt, .int .i64 qw, .int .i64 qh] 33 : Obj)).heap[W3.heap.size + 1]? = some (.cells #[.int .i64 qc, .int .i64 qv, .string qt, .int .i64 qw, .int .i64 qh] 33 (0, 0) : Obj) by rw [hW4.out]; exact RR.out)
    obtain ⟨_, _, _, _, _, _⟩ := five_cells ER.out
    by_cases hq0 : qc = 0
    rotate_left
    · have hb0 : (qc == 0) = false := by simp [hq0]
      have hn0 : (qc != 0) = true := by simp [hq0]
      obtain ⟨_, _, _, _, _, _⟩ := five_cells RP.out
      obtain ⟨_, _, _, _, _⟩ := four_cells RX.out
      obtain ⟨_, _, _, _, _, _⟩ := five_cells RQ.out
      obtain ⟨_, _, _, _, _, _⟩ := five_cells RR.out
      go_wp2
      rw [hW4.out]
      go_ret
      first | exact ⟨rfl, BW⟩ | exact ⟨rfl, below_drewN BW _⟩
    obtain rfl : qc = 0 := hq0
    have hpt := @Pu.put_then p (⟨⟨#[80, 117, 116]⟩, xk, xv, xt⟩ : Pu.CallD) (Pu.mk_list Pu.mPut) (by rw [HR.out])
    obtain ⟨hcp, hkk, q1, q2, q3, q4⟩ := hpt
    clear q1 q2 q3 q4
    have hpg := @Pu.put_get p (⟨⟨#[80, 117, 116]⟩, xk, xv, xt⟩ : Pu.CallD) (Pu.mk_list Pu.mPut) (by rw [HR.out])
    have hgd := Pu.callF_good (x := (⟨⟨#[80, 117, 116]⟩, xk, xv, xt⟩ : Pu.CallD)) hcp
    rw [HR.out] at hpg hgd
    dsimp only at hpg hgd
    obtain ⟨hg1, hg2, hg3⟩ := hpg
    obtain ⟨hq1, hq2, _⟩ := hgd
    subst hg2
    replace hg3 := hide hg3
    replace hg1 := hide hg1
    replace hq1 := hide hq1
    have hql := (good_of hq1.out).2.2.2
    have hwq : CoreD.wf ⟨qk, qo, qb, ql, qn⟩ := ⟨by rw [hq2]; exact HP.out.wf.1, WalkArith.wf_i64 (by have := (good_of hq1.out).2; omega)⟩
    replace hwq := hide hwq
    clear hq2
    have hgw : ∀ k : ByteArray, k.size ≤ maxLen → CallD.wf (Pu.getCall k) := fun k hk => ⟨(by show 3 ≤ maxLen; decide), hk, (by show (Lit.int .i64 0).wf = true; decide), (by show 0 ≤ maxLen; decide)⟩
    have hgt : ∀ k : ByteArray, (Pu.getCall k).text.size ≤ 1048576 := fun k => (by show 0 ≤ 1048576; decide)
    replace hgw := hide hgw
    replace hgt := hide hgt
    obtain ⟨⟨yk, yo, yb, yl, yn⟩, HR2⟩ : ∃ K : Pu.CoreD, Hid (Pu.callF ⟨qk, qo, qb, ql, qn⟩ (Pu.getCall xk) = (K, ⟨0, xv, ⟨#[]⟩, 0, 0⟩)) := ⟨_, Prod.ext rfl hg1.out⟩
    obtain ⟨_, _, _, _, _, _⟩ := five_cells RP.out
    obtain ⟨_, _, _, _, _⟩ := four_cells RX.out
    obtain ⟨_, _, _, _, _, _⟩ := five_cells RQ.out
    obtain ⟨_, _, _, _, _, _⟩ := five_cells RR.out
    go_wp2_with fail
    rw [hW4.out]
    refine (iCallCore_x ⟨qk, qo, qb, ql, qn⟩ (Pu.getCall xk) _ _ yk ⟨#[]⟩ yo yb yl yn 0 xv 0 0 (HM.out.below BW hlM) (HT.out.below BW hlT) (HE.out.below BW hlE) hwq.out (hgw.out xk HX.out.wf.2.1) ⟨OQ.out, hql.2⟩ (by show ql.length ≤ 16777216; have := hql.1; omega) (hgt.out xk) HR2).mono ?_; rintro e W5 ⟨AW5, cW5, rfl, o5, b⟩
    have RP := hide (show W5.heap[W1.heap.size]? = some (.cells #[.string p.kind, .bool p.on, .bool p.broken, .slice A p.cells.length c, .int .i64 p.count] 31 (0, 0) : Obj) from row_on b RP.out)
    have RX := hide (show W5.heap[W1.heap.size + 1]? = some (.cells #[.string ⟨#[80, 117, 116]⟩, .string xk, .int .i64 xv, .string xt] 37 (0, 0) : Obj) from row_on b RX.out)
    have RQ := hide (show W5.heap[W3.heap.size]? = some (.cells #[.string qk, .bool qo, .bool qb, .slice AW3 (ql).length cW3, .int .i64 qn] 31 (0, 0) : Obj) from row_on b RQ.out)
    have RR := hide (show W5.heap[W3.heap.size + 1]? = some (.cells #[.int .i64 0, .int .i64 (ql.length : Int), .string qt, .int .i64 qw, .int .i64 qh] 33 (0, 0) : Obj) from row_on b RR.out)
    have OP := hide (show RdL W5 2 cellEn (.slice A p.cells.length c) p.cells from RdL.below OP.out b (Nat.le_refl _))
    have OQ := hide (show RdL W5 2 cellEn (.slice AW3 (ql).length cW3) ql from RdL.below OQ.out b (Nat.le_refl _))
    have BW := below_then BW b
    have OY := hide (show RdL W5 2 cellEn (.slice AW5 (yl).length cW5) (yl) from o5.rd (fun _ => rfl))
    clear o5
    obtain ⟨W6, hW6⟩ : ∃ W, Hid ((W5.alloc (.cells #[.string yk, .bool yo, .bool yb, .slice AW5 (yl).length cW5, .int .i64 yn] 31 : Obj)).alloc (.cells #[.int .i64 0, .int .i64 xv, .string ⟨#[]⟩, .int .i64 0, .int .i64 0] 33 : Obj) = W) := ⟨_, rfl⟩
    have b : Below W5.heap.size W5 W6 := by rw [← hW6.out]; exact below_alloc (below_alloc (Below.refl _ _) _) _
    have RP := hide (show W6.heap[W1.heap.size]? = some (.cells #[.string p.kind, .bool p.on, .bool p.broken, .slice A p.cells.length c, .int .i64 p.count] 31 (0, 0) : Obj) from row_on b RP.out)
    have RX := hide (show W6.heap[W1.heap.size + 1]? = some (.cells #[.string ⟨#[80, 117, 116]⟩, .string xk, .int .i64 xv, .string xt] 37 (0, 0) : Obj) from row_on b RX.out)
    have RQ := hide (show W6.heap[W3.heap.size]? = some (.cells #[.string qk, .bool qo, .bool qb, .slice AW3 (ql).length cW3, .int .i64 qn] 31 (0, 0) : Obj) from row_on b RQ.out)
    have RR := hide (show W6.heap[W3.heap.size + 1]? = some (.cells #[.int .i64 0, .int .i64 (ql.length : Int), .string qt, .int .i64 qw, .int .i64 qh] 33 (0, 0) : Obj) from row_on b RR.out)
    have OP := hide (show RdL W6 2 cellEn (.slice A p.cells.length c) p.cells from RdL.below OP.out b (Nat.le_refl _))
    have OQ := hide (show RdL W6 2 cellEn (.slice AW3 (ql).length cW3) ql from RdL.below OQ.out b (Nat.le_refl _))
    have OY := hide (show RdL W6 2 cellEn (.slice AW5 (yl).length cW5) yl from RdL.below OY.out b (Nat.le_refl _))
    have BW := below_then BW b
    have RY := hide (show W6.heap[W5.heap.size]? = some (.cells #[.string yk, .bool yo, .bool yb, .slice AW5 (yl).length cW5, .int .i64 yn] 31 (0, 0) : Obj) by rw [← hW6.out]; exact heap_old (by simp) (heap_new rfl))
    have RS := hide (show W6.heap[W5.heap.size + 1]? = some (.cells #[.int .i64 0, .int .i64 xv, .string ⟨#[]⟩, .int .i64 0, .int .i64 0] 33 (0, 0) : Obj) by rw [← hW6.out]; exact heap_new (by simp))
    have EP := hide (show ((W5.alloc (.cells #[.string yk, .bool yo, .bool yb, .slice AW5 (yl).length cW5, .int .i64 yn] 31 : Obj)).alloc (.cells #[.int .i64 0, .int .i64 xv, .string ⟨#[]⟩, .int .i64 0, .int .i64 0] 33 : Obj)).heap[W1.heap.size]? = some (.cells #[.string p.kind, .bool p.on, .bool p.broken, .slice A p.cells.length c, .int .i64 p.count] 31 (0, 0) : Obj) by rw [hW6.out]; exact RP.out)
    obtain ⟨_, _, _, _, _, _⟩ := five_cells EP.out
    have EX := hide (show ((W5.alloc (.cells #[.string yk, .bool yo, .bool yb, .slice AW5 (yl).length cW5, .int .i64 yn] 31 : Obj)).alloc (.cells #[.int .i64 0, .int .i64 xv, .string ⟨#[]⟩, .int .i64 0, .int .i64 0] 33 : Obj)).heap[W1.heap.size + 1]? = some (.cells #[.string ⟨#[80, 117, 116]⟩, .string xk, .int .i64 xv, .string xt] 37 (0, 0) : Obj) by rw [hW6.out]; exact RX.out)
    obtain ⟨_, _, _, _, _⟩ := four_cells EX.out
    have EQ := hide (show ((W5.alloc (.cells #[.string yk, .bool yo, .bool yb, .slice AW5 (yl).length cW5, .int .i64 yn] 31 : Obj)).alloc (.cells #[.int .i64 0, .int .i64 xv, .string ⟨#[]⟩, .int .i64 0, .int .i64 0] 33 : Obj)).heap[W3.heap.size]? = some (.cells #[.string qk, .bool qo, .bool qb, .slice AW3 (ql).length cW3, .int .i64 qn] 31 (0, 0) : Obj) by rw [hW6.out]; exact RQ.out)
    obtain ⟨_, _, _, _, _, _⟩ := five_cells EQ.out
    have ER := hide (show ((W5.alloc (.cells #[.string yk, .bool yo, .bool yb, .slice AW5 (yl).length cW5, .int .i64 yn] 31 : Obj)).alloc (.cells #[.int .i64 0, .int .i64 xv, .string ⟨#[]⟩, .int .i64 0, .int .i64 0] 33 : Obj)).heap[W3.heap.size + 1]? = some (.cells #[.int .i64 0, .int .i64 (ql.length : Int), .string qt, .int .i64 qw, .int .i64 qh] 33 (0, 0) : Obj) by rw [hW6.out]; exact RR.out)
    obtain ⟨_, _, _, _, _, _⟩ := five_cells ER.out
    have EY := hide (show ((W5.alloc (.cells #[.string yk, .bool yo, .bool yb, .slice AW5 (yl).length cW5, .int .i64 yn] 31 : Obj)).alloc (.cells #[.int .i64 0, .int .i64 xv, .string ⟨#[]⟩, .int .i64 0, .int .i64 0] 33 : Obj)).heap[W5.heap.size]? = some (.cells #[.string yk, .bool yo, .bool yb, .slice AW5 (yl).length cW5, .int .i64 yn] 31 (0, 0) : Obj) by rw [hW6.out]; exact RY.out)
    obtain ⟨_, _, _, _, _, _⟩ := five_cells EY.out
    have ES := hide (show ((W5.alloc (.cells #[.string yk, .bool yo, .bool yb, .slice AW5 (yl).length cW5, .int .i64 yn] 31 : Obj)).alloc (.cells #[.int .i64 0, .int .i64 xv, .string ⟨#[]⟩, .int .i64 0, .int .i64 0] 33 : Obj)).heap[W5.heap.size + 1]? = some (.cells #[.int .i64 0, .int .i64 xv, .string ⟨#[]⟩, .int .i64 0, .int .i64 0] 33 (0, 0) : Obj) by rw [hW6.out]; exact RS.out)
    obtain ⟨_, _, _, _, _, _⟩ := five_cells ES.out
    have hgr := guard_reply
    have hgc := guard_cell
    have hneq := fun w => neq_reply 0 xv 0 0 ⟨#[]⟩ ⟨#[]⟩ rfl w
    obtain ⟨_, _, _, _, _, _⟩ := five_cells RP.out
    obtain ⟨_, _, _, _, _⟩ := four_cells RX.out
    obtain ⟨_, _, _, _, _, _⟩ := five_cells RQ.out
    obtain ⟨_, _, _, _, _, _⟩ := five_cells RR.out
    obtain ⟨_, _, _, _, _, _⟩ := five_cells RY.out
    obtain ⟨_, _, _, _, _, _⟩ := five_cells RS.out
    go_wp2_with fail
    rw [hW6.out]
    have BWH := hide BW
    clear BW hneq
    obtain ⟨_, _, e3, _, _, hA⟩ := RdL.open_ OP.out
    injection e3 with e3 _ e4
    subst e3 e4
    have HA := hide hA
    clear hA
    go_loopw [9] (fun i wr => ∃ k : Nat, k ≤ p.cells.length ∧ i = .int .i64 k ∧ Below W6.heap.size W6 wr) (fun i _ => p.cells.length - (intOf i).toNat)
    case atStart => exact ⟨0, by omega, rfl, Below.refl _ _⟩
    case round =>
      obtain ⟨k, hk, rfl, hb⟩ := hrel
      have BW := BWH.out
      have RP := hide (show wr.heap[W1.heap.size]? = some (.cells #[.string p.kind, .bool p.on, .bool p.broken, .slice A p.cells.length c, .int .i64 p.count] 31 (0, 0) : Obj) from row_on hb RP.out)
      have RX := hide (show wr.heap[W1.heap.size + 1]? = some (.cells #[.string ⟨#[80, 117, 116]⟩, .string xk, .int .i64 xv, .string xt] 37 (0, 0) : Obj) from row_on hb RX.out)
      have RQ := hide (show wr.heap[W3.heap.size]? = some (.cells #[.string qk, .bool qo, .bool qb, .slice AW3 (ql).length cW3, .int .i64 qn] 31 (0, 0) : Obj) from row_on hb RQ.out)
      have RR := hide (show wr.heap[W3.heap.size + 1]? = some (.cells #[.int .i64 0, .int .i64 (ql.length : Int), .string qt, .int .i64 qw, .int .i64 qh] 33 (0, 0) : Obj) from row_on hb RR.out)
      have RY := hide (show wr.heap[W5.heap.size]? = some (.cells #[.string yk, .bool yo, .bool yb, .slice AW5 (yl).length cW5, .int .i64 yn] 31 (0, 0) : Obj) from row_on hb RY.out)
      have RS := hide (show wr.heap[W5.heap.size + 1]? = some (.cells #[.int .i64 0, .int .i64 xv, .string ⟨#[]⟩, .int .i64 0, .int .i64 0] 33 (0, 0) : Obj) from row_on hb RS.out)
      have OP := hide (show RdL wr 2 cellEn (.slice A p.cells.length c) p.cells from RdL.below OP.out hb (Nat.le_refl _))
      have OQ := hide (show RdL wr 2 cellEn (.slice AW3 (ql).length cW3) ql from RdL.below OQ.out hb (Nat.le_refl _))
      have OY := hide (show RdL wr 2 cellEn (.slice AW5 (yl).length cW5) yl from RdL.below OY.out hb (Nat.le_refl _))
      have BW := below_then BW hb
      by_cases hlt : k < p.cells.length
      rotate_left
      · obtain rfl : k = p.cells.length := by omega
        obtain ⟨_, _, _, _, _, _⟩ := five_cells RP.out
        obtain ⟨_, _, _, _, _⟩ := four_cells RX.out
        obtain ⟨_, _, _, _, _, _⟩ := five_cells RQ.out
        obtain ⟨_, _, _, _, _, _⟩ := five_cells RR.out
        obtain ⟨_, _, _, _, _, _⟩ := five_cells RY.out
        obtain ⟨_, _, _, _, _, _⟩ := five_cells RS.out
        go_wp2
        go_ret
        exact ⟨rfl, BW⟩
      obtain ⟨g, o, rfl, hg, HC⟩ := HA.out.at_ (by omega)
      obtain ⟨y, HY, h0, h1⟩ := cell_get HC hb hlt
      have hym : y ∈ p.cells := List.mem_of_getElem? HY.out
      have hys : y.key.size ≤ maxLen := by have := (HP.out.2.2.2 y hym).1; unfold maxLen; omega
      replace hys := hide hys
      have hgk : g < wr.heap.size := Nat.lt_of_lt_of_le hg hb.size
      have BL := hb
      obtain ⟨⟨⟨jk, jo, jb, jl, jn⟩, ⟨jc, jv, jt, jw, jh⟩⟩, HRA⟩ : ∃ R : Pu.CoreD × Pu.ReplyD, Hid (Pu.callF p (Pu.getCall y.key) = R) := ⟨_, rfl⟩
      obtain ⟨⟨⟨bk, bo, bb, bl, bn⟩, ⟨bc, bv, bt, bw, bh⟩⟩, HRB⟩ : ∃ R : Pu.CoreD × Pu.ReplyD, Hid (Pu.callF ⟨qk, qo, qb, ql, qn⟩ (Pu.getCall y.key) = R) := ⟨_, rfl⟩
      have hw2 : CallD.wf (⟨⟨#[71, 101, 116]⟩, y.key, 0, ⟨#[]⟩⟩ : Pu.CallD) := hgw.out _ hys.out
      replace hw2 := hide hw2
      have ht2 : (⟨⟨#[71, 101, 116]⟩, y.key, 0, ⟨#[]⟩⟩ : Pu.CallD).text.size ≤ 1048576 := hgt.out y.key
      replace ht2 := hide ht2
      have HRA2 : Hid (Pu.callF p (⟨⟨#[71, 101, 116]⟩, y.key, 0, ⟨#[]⟩⟩ : Pu.CallD) = (⟨jk, jo, jb, jl, jn⟩, ⟨jc, jv, jt, jw, jh⟩)) := HRA
      have HRB2 : Hid (Pu.callF ⟨qk, qo, qb, ql, qn⟩ (⟨⟨#[71, 101, 116]⟩, y.key, 0, ⟨#[]⟩⟩ : Pu.CallD) = (⟨bk, bo, bb, bl, bn⟩, ⟨bc, bv, bt, bw, bh⟩)) := HRB
      obtain ⟨_, _, _, _, _, _⟩ := five_cells RP.out
      obtain ⟨_, _, _, _, _⟩ := four_cells RX.out
      obtain ⟨_, _, _, _, _, _⟩ := five_cells RQ.out
      obtain ⟨_, _, _, _, _, _⟩ := five_cells RR.out
      obtain ⟨_, _, _, _, _, _⟩ := five_cells RY.out
      obtain ⟨_, _, _, _, _, _⟩ := five_cells RS.out
      go_upto_region 14 with fail
      have hzP : W1.heap.size < wr.heap.size := (Array.getElem?_eq_some_iff.1 RP.out).1
      have hgz : g < wr.heap.size := hgk
      go_cut [10, 11] from 52 to 96 (fun s1 s2 wx => ∃ g1 g2 A c, s1 = .pointer (some ⟨g1, 0, none⟩) ∧ s2 = .pointer (some ⟨g2, 0, none⟩) ∧ wx.heap[g1]? = some (.cells #[.string jk, .bool jo, .bool jb, .slice A jl.length c, .int .i64 jn] 31 (0, 0) : Obj) ∧ wx.heap[g2]? = some (.cells #[.int .i64 jc, .int .i64 jv, .string jt, .int .i64 jw, .int .i64 jh] 33 (0, 0) : Obj) ∧ OwnL wx wr.heap.size 63 2 cellEn (.slice A jl.length c) jl ∧ Below wr.heap.size wr wx)
      case first =>
        have h0inv : Below wr.heap.size wr wr.drew := (Below.refl _ _).drew
        obtain ⟨G, hGdef⟩ : ∃ G : Nat → Value → World → Prop, G = (fun j v wx => match j with | 0 => (v = .agg #[.string p.kind, .bool p.on, .bool p.broken, .slice (some ⟨g, o, none⟩) p.cells.length c, .int .i64 p.count]) | 1 => (v = .pointer (some ⟨W1.heap.size, 3, none⟩)) | 2 => (v = .slice (some ⟨g, o, none⟩) p.cells.length c) | 3 => (v = .int .i64 k) | 4 => (v = .pointer (some ⟨g, o + k * 2, none⟩)) | 5 => (v = .pointer (some ⟨g, o + k * 2, none⟩)) | 6 => (v = .string y.key) | 7 => (v = .agg #[.string ⟨#[71, 101, 116]⟩, .string y.key, .int .i64 0, .string ⟨#[]⟩]) | 8 => (∃ A c, v = .tuple #[.agg #[.string jk, .bool jo, .bool jb, .slice A jl.length c, .int .i64 jn], .agg #[.int .i64 jc, .int .i64 jv, .string jt, .int .i64 jw, .int .i64 jh]] ∧ OwnL wx wr.heap.size 63 2 cellEn (.slice A jl.length c) jl) | 9 => (∃ A c, v = .tuple #[.agg #[.string jk, .bool jo, .bool jb, .slice A jl.length c, .int .i64 jn], .agg #[.int .i64 jc, .int .i64 jv, .string jt, .int .i64 jw, .int .i64 jh]] ∧ OwnL wx wr.heap.size 63 2 cellEn (.slice A jl.length c) jl) | 10 => (∃ A c, v = .agg #[.string jk, .bool jo, .bool jb, .slice A jl.length c, .int .i64 jn] ∧ OwnL wx wr.heap.size 63 2 cellEn (.slice A jl.length c) jl) | 11 => (v = .agg #[.int .i64 jc, .int .i64 jv, .string jt, .int .i64 jw, .int .i64 jh]) | 12 => (BlkG wr.heap.size 31 5 v wx) | 13 => (BlkG wr.heap.size 33 5 v wx) | 14 => (FinG wr.heap.size 31 (fun cs wx => ∃ A c, cs = #[.string jk, .bool jo, .bool jb, .slice A jl.length c, .int .i64 jn] ∧ OwnL wx wr.heap.size 63 2 cellEn (.slice A jl.length c) jl) v wx) | 15 => (FinG wr.heap.size 33 (fun cs wx => cs = #[.int .i64 jc, .int .i64 jv, .string jt, .int .i64 jw, .int .i64 jh]) v wx) | _ => True) := ⟨_, rfl⟩
        have G0 : ∀ v wx, G 0 v wx = (v = .agg #[.string p.kind, .bool p.on, .bool p.broken, .slice (some ⟨g, o, none⟩) p.cells.length c, .int .i64 p.count]) := fun v wx => (congrFun (congrFun (congrFun hGdef 0) v) wx).trans rfl
        have G1 : ∀ v wx, G 1 v wx = (v = .pointer (some ⟨W1.heap.size, 3, none⟩)) := fun v wx => (congrFun (congrFun (congrFun hGdef 1) v) wx).trans rfl
        have G2 : ∀ v wx, G 2 v wx = (v = .slice (some ⟨g, o, none⟩) p.cells.length c) := fun v wx => (congrFun (congrFun (congrFun hGdef 2) v) wx).trans rfl
        have G3 : ∀ v wx, G 3 v wx = (v = .int .i64 k) := fun v wx => (congrFun (congrFun (congrFun hGdef 3) v) wx).trans rfl
        have G4 : ∀ v wx, G 4 v wx = (v = .pointer (some ⟨g, o + k * 2, none⟩)) := fun v wx => (congrFun (congrFun (congrFun hGdef 4) v) wx).trans rfl
        have G5 : ∀ v wx, G 5 v wx = (v = .pointer (some ⟨g, o + k * 2, none⟩)) := fun v wx => (congrFun (congrFun (congrFun hGdef 5) v) wx).trans rfl
        have G6 : ∀ v wx, G 6 v wx = (v = .string y.key) := fun v wx => (congrFun (congrFun (congrFun hGdef 6) v) wx).trans rfl
        have G7 : ∀ v wx, G 7 v wx = (v = .agg #[.string ⟨#[71, 101, 116]⟩, .string y.key, .int .i64 0, .string ⟨#[]⟩]) := fun v wx => (congrFun (congrFun (congrFun hGdef 7) v) wx).trans rfl
        have G8 : ∀ v wx, G 8 v wx = (∃ A c, v = .tuple #[.agg #[.string jk, .bool jo, .bool jb, .slice A jl.length c, .int .i64 jn], .agg #[.int .i64 jc, .int .i64 jv, .string jt, .int .i64 jw, .int .i64 jh]] ∧ OwnL wx wr.heap.size 63 2 cellEn (.slice A jl.length c) jl) := fun v wx => (congrFun (congrFun (congrFun hGdef 8) v) wx).trans rfl
        have G9 : ∀ v wx, G 9 v wx = (∃ A c, v = .tuple #[.agg #[.string jk, .bool jo, .bool jb, .slice A jl.length c, .int .i64 jn], .agg #[.int .i64 jc, .int .i64 jv, .string jt, .int .i64 jw, .int .i64 jh]] ∧ OwnL wx wr.heap.size 63 2 cellEn (.slice A jl.length c) jl) := fun v wx => (congrFun (congrFun (congrFun hGdef 9) v) wx).trans rfl
        have G10 : ∀ v wx, G 10 v wx = (∃ A c, v = .agg #[.string jk, .bool jo, .bool jb, .slice A jl.length c, .int .i64 jn] ∧ OwnL wx wr.heap.size 63 2 cellEn (.slice A jl.length c) jl) := fun v wx => (congrFun (congrFun (congrFun hGdef 10) v) wx).trans rfl
        have G11 : ∀ v wx, G 11 v wx = (v = .agg #[.int .i64 jc, .int .i64 jv, .string jt, .int .i64 jw, .int .i64 jh]) := fun v wx => (congrFun (congrFun (congrFun hGdef 11) v) wx).trans rfl
        have G12 : ∀ v wx, G 12 v wx = (BlkG wr.heap.size 31 5 v wx) := fun v wx => (congrFun (congrFun (congrFun hGdef 12) v) wx).trans rfl
        have G13 : ∀ v wx, G 13 v wx = (BlkG wr.heap.size 33 5 v wx) := fun v wx => (congrFun (congrFun (congrFun hGdef 13) v) wx).trans rfl
        have G14 : ∀ v wx, G 14 v wx = (FinG wr.heap.size 31 (fun cs wx => ∃ A c, cs = #[.string jk, .bool jo, .bool jb, .slice A jl.length c, .int .i64 jn] ∧ OwnL wx wr.heap.size 63 2 cellEn (.slice A jl.length c) jl) v wx) := fun v wx => (congrFun (congrFun (congrFun hGdef 14) v) wx).trans rfl
        have G15 : ∀ v wx, G 15 v wx = (FinG wr.heap.size 33 (fun cs wx => cs = #[.int .i64 jc, .int .i64 jv, .string jt, .int .i64 jw, .int .i64 jh]) v wx) := fun v wx => (congrFun (congrFun (congrFun hGdef 15) v) wx).trans rfl
        have Gn : ∀ j v wx, G (j + 16) v wx = True := fun j v wx => (congrFun (congrFun (congrFun hGdef _) v) wx).trans rfl
        clear hGdef
        have firm0 : ∀ j v, Firm [] (G j v) := by
          intro j v
          match j with
          | 0 => rw [show G 0 v = (fun wx => v = .agg #[.string p.kind, .bool p.on, .bool p.broken, .slice (some ⟨g, o, none⟩) p.cells.length c, .int .i64 p.count]) from funext (G0 v)]; exact firm_const _
          | 1 => rw [show G 1 v = (fun wx => v = .pointer (some ⟨W1.heap.size, 3, none⟩)) from funext (G1 v)]; exact firm_const _
          | 2 => rw [show G 2 v = (fun wx => v = .slice (some ⟨g, o, none⟩) p.cells.length c) from funext (G2 v)]; exact firm_const _
          | 3 => rw [show G 3 v = (fun wx => v = .int .i64 k) from funext (G3 v)]; exact firm_const _
          | 4 => rw [show G 4 v = (fun wx => v = .pointer (some ⟨g, o + k * 2, none⟩)) from funext (G4 v)]; exact firm_const _
          | 5 => rw [show G 5 v = (fun wx => v = .pointer (some ⟨g, o + k * 2, none⟩)) from funext (G5 v)]; exact firm_const _
          | 6 => rw [show G 6 v = (fun wx => v = .string y.key) from funext (G6 v)]; exact firm_const _
          | 7 => rw [show G 7 v = (fun wx => v = .agg #[.string ⟨#[71, 101, 116]⟩, .string y.key, .int .i64 0, .string ⟨#[]⟩]) from funext (G7 v)]; exact firm_const _
          | 8 => rw [show G 8 v = (fun wx => ∃ A c, v = .tuple #[.agg #[.string jk, .bool jo, .bool jb, .slice A jl.length c, .int .i64 jn], .agg #[.int .i64 jc, .int .i64 jv, .string jt, .int .i64 jw, .int .i64 jh]] ∧ OwnL wx wr.heap.size 63 2 cellEn (.slice A jl.length c) jl) from funext (G8 v)]; exact firm_ex fun _ => firm_ex fun _ => firm_and (firm_const _) (firm_own (by decide))
          | 9 => rw [show G 9 v = (fun wx => ∃ A c, v = .tuple #[.agg #[.string jk, .bool jo, .bool jb, .slice A jl.length c, .int .i64 jn], .agg #[.int .i64 jc, .int .i64 jv, .string jt, .int .i64 jw, .int .i64 jh]] ∧ OwnL wx wr.heap.size 63 2 cellEn (.slice A jl.length c) jl) from funext (G9 v)]; exact firm_ex fun _ => firm_ex fun _ => firm_and (firm_const _) (firm_own (by decide))
          | 10 => rw [show G 10 v = (fun wx => ∃ A c, v = .agg #[.string jk, .bool jo, .bool jb, .slice A jl.length c, .int .i64 jn] ∧ OwnL wx wr.heap.size 63 2 cellEn (.slice A jl.length c) jl) from funext (G10 v)]; exact firm_ex fun _ => firm_ex fun _ => firm_and (firm_const _) (firm_own (by decide))
          | 11 => rw [show G 11 v = (fun wx => v = .agg #[.int .i64 jc, .int .i64 jv, .string jt, .int .i64 jw, .int .i64 jh]) from funext (G11 v)]; exact firm_const _
          | 12 => rw [show G 12 v = (fun wx => BlkG wr.heap.size 31 5 v wx) from funext (G12 v)]; exact firm_blk
          | 13 => rw [show G 13 v = (fun wx => BlkG wr.heap.size 33 5 v wx) from funext (G13 v)]; exact firm_blk
          | 14 => rw [show G 14 v = (fun wx => FinG wr.heap.size 31 (fun cs wx => ∃ A c, cs = #[.string jk, .bool jo, .bool jb, .slice A jl.length c, .int .i64 jn] ∧ OwnL wx wr.heap.size 63 2 cellEn (.slice A jl.length c) jl) v wx) from funext (G14 v)]; exact firm_fin (by decide) (fun _ => firm_ex fun _ => firm_ex fun _ => firm_and (firm_const _) (firm_own (by decide)))
          | 15 => rw [show G 15 v = (fun wx => FinG wr.heap.size 33 (fun cs wx => cs = #[.int .i64 jc, .int .i64 jv, .string jt, .int .i64 jw, .int .i64 jh]) v wx) from funext (G15 v)]; exact firm_fin (by decide) (fun _ => firm_const _)
          | j + 16 => rw [show G (j + 16) v = (fun wx => True) from funext (Gn j v)]; exact firm_const _
        have firm1 : ∀ j v, j ≠ 14 → Firm [31] (G j v) := by
          intro j v
          match j with
          | 0 => intro h14; rw [show G 0 v = (fun wx => v = .agg #[.string p.kind, .bool p.on, .bool p.broken, .slice (some ⟨g, o, none⟩) p.cells.length c, .int .i64 p.count]) from funext (G0 v)]; exact firm_const _
          | 1 => intro h14; rw [show G 1 v = (fun wx => v = .pointer (some ⟨W1.heap.size, 3, none⟩)) from funext (G1 v)]; exact firm_const _
          | 2 => intro h14; rw [show G 2 v = (fun wx => v = .slice (some ⟨g, o, none⟩) p.cells.length c) from funext (G2 v)]; exact firm_const _
          | 3 => intro h14; rw [show G 3 v = (fun wx => v = .int .i64 k) from funext (G3 v)]; exact firm_const _
          | 4 => intro h14; rw [show G 4 v = (fun wx => v = .pointer (some ⟨g, o + k * 2, none⟩)) from funext (G4 v)]; exact firm_const _
          | 5 => intro h14; rw [show G 5 v = (fun wx => v = .pointer (some ⟨g, o + k * 2, none⟩)) from funext (G5 v)]; exact firm_const _
          | 6 => intro h14; rw [show G 6 v = (fun wx => v = .string y.key) from funext (G6 v)]; exact firm_const _
          | 7 => intro h14; rw [show G 7 v = (fun wx => v = .agg #[.string ⟨#[71, 101, 116]⟩, .string y.key, .int .i64 0, .string ⟨#[]⟩]) from funext (G7 v)]; exact firm_const _
          | 8 => intro h14; rw [show G 8 v = (fun wx => ∃ A c, v = .tuple #[.agg #[.string jk, .bool jo, .bool jb, .slice A jl.length c, .int .i64 jn], .agg #[.int .i64 jc, .int .i64 jv, .string jt, .int .i64 jw, .int .i64 jh]] ∧ OwnL wx wr.heap.size 63 2 cellEn (.slice A jl.length c) jl) from funext (G8 v)]; exact firm_ex fun _ => firm_ex fun _ => firm_and (firm_const _) (firm_own (by decide))
          | 9 => intro h14; rw [show G 9 v = (fun wx => ∃ A c, v = .tuple #[.agg #[.string jk, .bool jo, .bool jb, .slice A jl.length c, .int .i64 jn], .agg #[.int .i64 jc, .int .i64 jv, .string jt, .int .i64 jw, .int .i64 jh]] ∧ OwnL wx wr.heap.size 63 2 cellEn (.slice A jl.length c) jl) from funext (G9 v)]; exact firm_ex fun _ => firm_ex fun _ => firm_and (firm_const _) (firm_own (by decide))
          | 10 => intro h14; rw [show G 10 v = (fun wx => ∃ A c, v = .agg #[.string jk, .bool jo, .bool jb, .slice A jl.length c, .int .i64 jn] ∧ OwnL wx wr.heap.size 63 2 cellEn (.slice A jl.length c) jl) from funext (G10 v)]; exact firm_ex fun _ => firm_ex fun _ => firm_and (firm_const _) (firm_own (by decide))
          | 11 => intro h14; rw [show G 11 v = (fun wx => v = .agg #[.int .i64 jc, .int .i64 jv, .string jt, .int .i64 jw, .int .i64 jh]) from funext (G11 v)]; exact firm_const _
          | 12 => intro h14; rw [show G 12 v = (fun wx => BlkG wr.heap.size 31 5 v wx) from funext (G12 v)]; exact firm_blk
          | 13 => intro h14; rw [show G 13 v = (fun wx => BlkG wr.heap.size 33 5 v wx) from funext (G13 v)]; exact firm_blk
          | 14 => intro h14; exact absurd rfl h14
          | 15 => intro h14; rw [show G 15 v = (fun wx => FinG wr.heap.size 33 (fun cs wx => cs = #[.int .i64 jc, .int .i64 jv, .string jt, .int .i64 jw, .int .i64 jh]) v wx) from funext (G15 v)]; exact firm_fin (by decide) (fun _ => firm_const _)
          | j + 16 => intro _; rw [show G (j + 16) v = (fun wx => True) from funext (Gn j v)]; exact firm_const _
        have firm2 : ∀ j v, j ≠ 15 → Firm [33] (G j v) := by
          intro j v
          match j with
          | 0 => intro h15; rw [show G 0 v = (fun wx => v = .agg #[.string p.kind, .bool p.on, .bool p.broken, .slice (some ⟨g, o, none⟩) p.cells.length c, .int .i64 p.count]) from funext (G0 v)]; exact firm_const _
          | 1 => intro h15; rw [show G 1 v = (fun wx => v = .pointer (some ⟨W1.heap.size, 3, none⟩)) from funext (G1 v)]; exact firm_const _
          | 2 => intro h15; rw [show G 2 v = (fun wx => v = .slice (some ⟨g, o, none⟩) p.cells.length c) from funext (G2 v)]; exact firm_const _
          | 3 => intro h15; rw [show G 3 v = (fun wx => v = .int .i64 k) from funext (G3 v)]; exact firm_const _
          | 4 => intro h15; rw [show G 4 v = (fun wx => v = .pointer (some ⟨g, o + k * 2, none⟩)) from funext (G4 v)]; exact firm_const _
          | 5 => intro h15; rw [show G 5 v = (fun wx => v = .pointer (some ⟨g, o + k * 2, none⟩)) from funext (G5 v)]; exact firm_const _
          | 6 => intro h15; rw [show G 6 v = (fun wx => v = .string y.key) from funext (G6 v)]; exact firm_const _
          | 7 => intro h15; rw [show G 7 v = (fun wx => v = .agg #[.string ⟨#[71, 101, 116]⟩, .string y.key, .int .i64 0, .string ⟨#[]⟩]) from funext (G7 v)]; exact firm_const _
          | 8 => intro h15; rw [show G 8 v = (fun wx => ∃ A c, v = .tuple #[.agg #[.string jk, .bool jo, .bool jb, .slice A jl.length c, .int .i64 jn], .agg #[.int .i64 jc, .int .i64 jv, .string jt, .int .i64 jw, .int .i64 jh]] ∧ OwnL wx wr.heap.size 63 2 cellEn (.slice A jl.length c) jl) from funext (G8 v)]; exact firm_ex fun _ => firm_ex fun _ => firm_and (firm_const _) (firm_own (by decide))
          | 9 => intro h15; rw [show G 9 v = (fun wx => ∃ A c, v = .tuple #[.agg #[.string jk, .bool jo, .bool jb, .slice A jl.length c, .int .i64 jn], .agg #[.int .i64 jc, .int .i64 jv, .string jt, .int .i64 jw, .int .i64 jh]] ∧ OwnL wx wr.heap.size 63 2 cellEn (.slice A jl.length c) jl) from funext (G9 v)]; exact firm_ex fun _ => firm_ex fun _ => firm_and (firm_const _) (firm_own (by decide))
          | 10 => intro h15; rw [show G 10 v = (fun wx => ∃ A c, v = .agg #[.string jk, .bool jo, .bool jb, .slice A jl.length c, .int .i64 jn] ∧ OwnL wx wr.heap.size 63 2 cellEn (.slice A jl.length c) jl) from funext (G10 v)]; exact firm_ex fun _ => firm_ex fun _ => firm_and (firm_const _) (firm_own (by decide))
          | 11 => intro h15; rw [show G 11 v = (fun wx => v = .agg #[.int .i64 jc, .int .i64 jv, .string jt, .int .i64 jw, .int .i64 jh]) from funext (G11 v)]; exact firm_const _
          | 12 => intro h15; rw [show G 12 v = (fun wx => BlkG wr.heap.size 31 5 v wx) from funext (G12 v)]; exact firm_blk
          | 13 => intro h15; rw [show G 13 v = (fun wx => BlkG wr.heap.size 33 5 v wx) from funext (G13 v)]; exact firm_blk
          | 14 => intro h15; rw [show G 14 v = (fun wx => FinG wr.heap.size 31 (fun cs wx => ∃ A c, cs = #[.string jk, .bool jo, .bool jb, .slice A jl.length c, .int .i64 jn] ∧ OwnL wx wr.heap.size 63 2 cellEn (.slice A jl.length c) jl) v wx) from funext (G14 v)]; exact firm_fin (by decide) (fun _ => firm_ex fun _ => firm_ex fun _ => firm_and (firm_const _) (firm_own (by decide)))
          | 15 => intro h15; exact absurd rfl h15
          | j + 16 => intro _; rw [show G (j + 16) v = (fun wx => True) from funext (Gn j v)]; exact firm_const _
        refine wp_region_abs wr.heap.size wr [10, 11, 59, 60, 61, 62, 63, 64, 65, 66, 67, 68, 69, 70] (fun j => match j with | 0 => 60 | 1 => 61 | 2 => 62 | 3 => 63 | 4 => 64 | 5 => 65 | 6 => 66 | 7 => 67 | 8 => 68 | 9 => 59 | 10 => 69 | 11 => 70 | 12 => 10 | 13 => 11 | 14 => 10 | 15 => 11 | _ => 0) (fun j => match j with | 0 => [] | 1 => [] | 2 => [1] | 3 => [] | 4 => [1, 2, 3] | 5 => [1, 2, 3, 4] | 6 => [1, 2, 3, 4, 5] | 7 => [1, 2, 3, 4, 5, 6] | 8 => [0, 1, 2, 3, 4, 5, 6, 7] | 9 => [0, 1, 2, 3, 4, 5, 6, 7, 8] | 10 => [0, 1, 2, 3, 4, 5, 6, 7, 8, 9] | 11 => [0, 1, 2, 3, 4, 5, 6, 7, 8, 9] | 12 => [] | 13 => [] | 14 => [0, 1, 2, 3, 4, 5, 6, 7, 8, 9, 10, 12] | 15 => [0, 1, 2, 3, 4, 5, 6, 7, 8, 9, 11, 13] | _ => []) G (fun j => match j with | 0 => [] | 1 => [] | 2 => [] | 3 => [] | 4 => [] | 5 => [] | 6 => [] | 7 => [] | 8 => [] | 9 => [] | 10 => [] | 11 => [] | 12 => [] | 13 => [] | 14 => [31] | 15 => [33] | _ => []) 97 (by kernel_rfl) (by kernel_rfl) rfl (by decide) h0inv ?firmx ?stpx ?finx
        case firmx =>
          intro i j hj _ v
          match i with
          | 0 => exact firm0 j v
          | 1 => exact firm0 j v
          | 2 => exact firm0 j v
          | 3 => exact firm0 j v
          | 4 => exact firm0 j v
          | 5 => exact firm0 j v
          | 6 => exact firm0 j v
          | 7 => exact firm0 j v
          | 8 => exact firm0 j v
          | 9 => exact firm0 j v
          | 10 => exact firm0 j v
          | 11 => exact firm0 j v
          | 12 => exact firm0 j v
          | 13 => exact firm0 j v
          | 14 => exact firm1 j v hj
          | 15 => exact firm2 j v hj
          | i + 16 => exact firm0 j v
        case stpx =>
          refine StepsFrom.cons ?opx_0 (StepsFrom.cons ?opx_1 (StepsFrom.cons ?opx_2 (StepsFrom.cons ?opx_3 (StepsFrom.cons ?opx_4 (StepsFrom.cons ?opx_5 (StepsFrom.cons ?opx_6 (StepsFrom.cons ?opx_7 (StepsFrom.cons ?opx_8 (StepsFrom.cons ?opx_9 (StepsFrom.cons ?opx_10 (StepsFrom.cons ?opx_11 (StepsFrom.cons ?opx_12 (StepsFrom.cons ?opx_13 (StepsFrom.cons ?opx_14 (StepsFrom.cons ?opx_15 (StepsFrom.nil))))))))))))))))
          case opx_0 =>
            intro vs wy b hin hout hb hdep K hK
            have t3 : b.tmps[3]? = some (.pointer (some ⟨W1.heap.size, 0, none⟩)) := (hout 3 (by decide)).trans rfl
            clear hin hout hdep
            replace hK : ∀ v w', Below wr.heap.size wr w' → Moved [] wy w' → (fun (v : Value) (wx : World) => v = .agg #[.string p.kind, .bool p.on, .bool p.broken, .slice (some ⟨g, o, none⟩) p.cells.length c, .int .i64 p.count]) v w' → K (b.put (some 60) v) w' := fun v w' q1 q2 q3 => hK v w' q1 q2 (Eq.mpr (G0 _ _) q3)
            refine ⟨wanted_plain rfl, ?_⟩
            have KW : ∀ k : Nat, wy.cell? ⟨W1.heap.size, k, none⟩ = _ := fun k => hb.cell hzP
            go_simp
            exact hK _ _ hb (moved_refl _) rfl
          case opx_1 =>
            intro vs wy b hin hout hb hdep K hK
            have t3 : b.tmps[3]? = some (.pointer (some ⟨W1.heap.size, 0, none⟩)) := (hout 3 (by decide)).trans rfl
            clear hin hout hdep
            replace hK : ∀ v w', Below wr.heap.size wr w' → Moved [] wy w' → (fun (v : Value) (wx : World) => v = .pointer (some ⟨W1.heap.size, 3, none⟩)) v w' → K (b.put (some 61) v) w' := fun v w' q1 q2 q3 => hK v w' q1 q2 (Eq.mpr (G1 _ _) q3)
            refine ⟨wanted_plain rfl, ?_⟩
            go_simp
            exact hK _ _ hb (moved_refl _) rfl
          case opx_2 =>
            intro vs wy b hin hout hb hdep K hK
            have h1 : (fun (v : Value) (wx : World) => v = .pointer (some ⟨W1.heap.size, 3, none⟩)) (vs 61) wy := by
              have h := hdep 1 (by decide)
              rw [G1] at h
              exact h
            dsimp only at h1
            have t61 := hin 61 (by decide)
            clear hin hout hdep
            replace hK : ∀ v w', Below wr.heap.size wr w' → Moved [] wy w' → (fun (v : Value) (wx : World) => v = .slice (some ⟨g, o, none⟩) p.cells.length c) v w' → K (b.put (some 62) v) w' := fun v w' q1 q2 q3 => hK v w' q1 q2 (Eq.mpr (G2 _ _) q3)
            refine ⟨wanted_plain rfl, ?_⟩
            have KW : ∀ k : Nat, wy.cell? ⟨W1.heap.size, k, none⟩ = _ := fun k => hb.cell hzP
            go_simp
            exact hK _ _ hb (moved_refl _) rfl
          case opx_3 =>
            intro vs wy b hin hout hb hdep K hK
            have t9 : b.tmps[9]? = some (.int .i64 k) := (hout 9 (by decide)).trans rfl
            clear hin hout hdep
            replace hK : ∀ v w', Below wr.heap.size wr w' → Moved [] wy w' → (fun (v : Value) (wx : World) => v = .int .i64 k) v w' → K (b.put (some 63) v) w' := fun v w' q1 q2 q3 => hK v w' q1 q2 (Eq.mpr (G3 _ _) q3)
            refine ⟨wanted_plain rfl, ?_⟩
            go_simp
            exact hK _ _ hb (moved_refl _) rfl
          case opx_4 =>
            intro vs wy b hin hout hb hdep K hK
            have h2 : (fun (v : Value) (wx : World) => v = .slice (some ⟨g, o, none⟩) p.cells.length c) (vs 62) wy := by
              have h := hdep 2 (by decide)
              rw [G2] at h
              exact h
            dsimp only at h2
            have h3 : (fun (v : Value) (wx : World) => v = .int .i64 k) (vs 63) wy := by
              have h := hdep 3 (by decide)
              rw [G3] at h
              exact h
            dsimp only at h3
            have t62 := hin 62 (by decide)
            have t63 := hin 63 (by decide)
            clear hin hout hdep
            replace hK : ∀ v w', Below wr.heap.size wr w' → Moved [] wy w' → (fun (v : Value) (wx : World) => v = .pointer (some ⟨g, o + k * 2, none⟩)) v w' → K (b.put (some 64) v) w' := fun v w' q1 q2 q3 => hK v w' q1 q2 (Eq.mpr (G4 _ _) q3)
            refine ⟨wanted_plain rfl, ?_⟩
            go_simp
            exact hK _ _ hb (moved_refl _) rfl
          case opx_5 =>
            intro vs wy b hin hout hb hdep K hK
            have h4 : (fun (v : Value) (wx : World) => v = .pointer (some ⟨g, o + k * 2, none⟩)) (vs 64) wy := by
              have h := hdep 4 (by decide)
              rw [G4] at h
              exact h
            dsimp only at h4
            have t64 := hin 64 (by decide)
            clear hin hout hdep
            replace hK : ∀ v w', Below wr.heap.size wr w' → Moved [] wy w' → (fun (v : Value) (wx : World) => v = .pointer (some ⟨g, o + k * 2, none⟩)) v w' → K (b.put (some 65) v) w' := fun v w' q1 q2 q3 => hK v w' q1 q2 (Eq.mpr (G5 _ _) q3)
            refine ⟨wanted_plain rfl, ?_⟩
            go_simp
            exact hK _ _ hb (moved_refl _) rfl
          case opx_6 =>
            intro vs wy b hin hout hb hdep K hK
            have h5 : (fun (v : Value) (wx : World) => v = .pointer (some ⟨g, o + k * 2, none⟩)) (vs 65) wy := by
              have h := hdep 5 (by decide)
              rw [G5] at h
              exact h
            dsimp only at h5
            have t65 := hin 65 (by decide)
            clear hin hout hdep
            replace hK : ∀ v w', Below wr.heap.size wr w' → Moved [] wy w' → (fun (v : Value) (wx : World) => v = .string y.key) v w' → K (b.put (some 66) v) w' := fun v w' q1 q2 q3 => hK v w' q1 q2 (Eq.mpr (G6 _ _) q3)
            refine ⟨wanted_plain rfl, ?_⟩
            have KC : ∀ j : Nat, wy.cell? ⟨g, j, none⟩ = _ := fun j => hb.cell hgz
            go_simp
            exact hK _ _ hb (moved_refl _) rfl
          case opx_7 =>
            intro vs wy b hin hout hb hdep K hK
            have h6 : (fun (v : Value) (wx : World) => v = .string y.key) (vs 66) wy := by
              have h := hdep 6 (by decide)
              rw [G6] at h
              exact h
            dsimp only at h6
            have t66 := hin 66 (by decide)
            clear hin hout hdep
            replace hK : ∀ v w', Below wr.heap.size wr w' → Moved [] wy w' → (fun (v : Value) (wx : World) => v = .agg #[.string ⟨#[71, 101, 116]⟩, .string y.key, .int .i64 0, .string ⟨#[]⟩]) v w' → K (b.put (some 67) v) w' := fun v w' q1 q2 q3 => hK v w' q1 q2 (Eq.mpr (G7 _ _) q3)
            refine ⟨wanted_plain rfl, ?_⟩
            go_simp
            exact hK _ _ hb (moved_refl _) rfl
          case opx_8 =>
            intro vs wy b hin hout hb hdep K hK
            have h0 : (fun (v : Value) (wx : World) => v = .agg #[.string p.kind, .bool p.on, .bool p.broken, .slice (some ⟨g, o, none⟩) p.cells.length c, .int .i64 p.count]) (vs 60) wy := by
              have h := hdep 0 (by decide)
              rw [G0] at h
              exact h
            dsimp only at h0
            have h7 : (fun (v : Value) (wx : World) => v = .agg #[.string ⟨#[71, 101, 116]⟩, .string y.key, .int .i64 0, .string ⟨#[]⟩]) (vs 67) wy := by
              have h := hdep 7 (by decide)
              rw [G7] at h
              exact h
            dsimp only at h7
            have t60 := hin 60 (by decide)
            have t67 := hin 67 (by decide)
            clear hin hout hdep
            replace hK : ∀ v w', Below wr.heap.size wr w' → Moved [] wy w' → (fun (v : Value) (wx : World) => ∃ A c, v = .tuple #[.agg #[.string jk, .bool jo, .bool jb, .slice A jl.length c, .int .i64 jn], .agg #[.int .i64 jc, .int .i64 jv, .string jt, .int .i64 jw, .int .i64 jh]] ∧ OwnL wx wr.heap.size 63 2 cellEn (.slice A jl.length c) jl) v w' → K (b.put (some 68) v) w' := fun v w' q1 q2 q3 => hK v w' q1 q2 (Eq.mpr (G8 _ _) q3)
            refine ⟨wanted_plain rfl, ?_⟩
            go_simp
            refine (iCallCore_x p (⟨⟨#[71, 101, 116]⟩, y.key, 0, ⟨#[]⟩⟩ : Pu.CallD) _ _ jk jt jo jb jl jn jc jv jw jh (HM.out.below (below_then BW hb) hlM) (HT.out.below (below_then BW hb) hlT) (HE.out.below (below_then BW hb) hlE) HP.out.wf hw2.out ⟨RdL.below OP.out hb (Nat.le_refl _), HP.out.2.2.wf⟩ (by have := HP.out.2.2.1; omega) ht2.out HRA2).mono ?_
            rintro e wz ⟨A9, c9, rfl, oS, bS⟩
            exact hK _ _ (below_then hb bS) (.inl bS) ⟨A9, c9, rfl, OwnL.mono oS hb.size⟩
          case opx_9 =>
            intro vs wy b hin hout hb hdep K hK
            have h8 : (fun (v : Value) (wx : World) => ∃ A c, v = .tuple #[.agg #[.string jk, .bool jo, .bool jb, .slice A jl.length c, .int .i64 jn], .agg #[.int .i64 jc, .int .i64 jv, .string jt, .int .i64 jw, .int .i64 jh]] ∧ OwnL wx wr.heap.size 63 2 cellEn (.slice A jl.length c) jl) (vs 68) wy := by
              have h := hdep 8 (by decide)
              rw [G8] at h
              exact h
            dsimp only at h8
            have t68 := hin 68 (by decide)
            clear hin hout hdep
            replace hK : ∀ v w', Below wr.heap.size wr w' → Moved [] wy w' → (fun (v : Value) (wx : World) => ∃ A c, v = .tuple #[.agg #[.string jk, .bool jo, .bool jb, .slice A jl.length c, .int .i64 jn], .agg #[.int .i64 jc, .int .i64 jv, .string jt, .int .i64 jw, .int .i64 jh]] ∧ OwnL wx wr.heap.size 63 2 cellEn (.slice A jl.length c) jl) v w' → K (b.put (some 59) v) w' := fun v w' q1 q2 q3 => hK v w' q1 q2 (Eq.mpr (G9 _ _) q3)
            refine ⟨wanted_plain rfl, ?_⟩
            obtain ⟨A9, c9, e9, o9⟩ := h8
            go_simp
            exact hK _ _ hb (moved_refl _) ⟨A9, c9, rfl, o9⟩
          case opx_10 =>
            intro vs wy b hin hout hb hdep K hK
            have h9 : (fun (v : Value) (wx : World) => ∃ A c, v = .tuple #[.agg #[.string jk, .bool jo, .bool jb, .slice A jl.length c, .int .i64 jn], .agg #[.int .i64 jc, .int .i64 jv, .string jt, .int .i64 jw, .int .i64 jh]] ∧ OwnL wx wr.heap.size 63 2 cellEn (.slice A jl.length c) jl) (vs 59) wy := by
              have h := hdep 9 (by decide)
              rw [G9] at h
              exact h
            dsimp only at h9
            have t59 := hin 59 (by decide)
            clear hin hout hdep
            replace hK : ∀ v w', Below wr.heap.size wr w' → Moved [] wy w' → (fun (v : Value) (wx : World) => ∃ A c, v = .agg #[.string jk, .bool jo, .bool jb, .slice A jl.length c, .int .i64 jn] ∧ OwnL wx wr.heap.size 63 2 cellEn (.slice A jl.length c) jl) v w' → K (b.put (some 69) v) w' := fun v w' q1 q2 q3 => hK v w' q1 q2 (Eq.mpr (G10 _ _) q3)
            refine ⟨wanted_plain rfl, ?_⟩
            obtain ⟨A9, c9, e9, o9⟩ := h9
            go_simp
            exact hK _ _ hb (moved_refl _) ⟨A9, c9, rfl, o9⟩
          case opx_11 =>
            intro vs wy b hin hout hb hdep K hK
            have h9 : (fun (v : Value) (wx : World) => ∃ A c, v = .tuple #[.agg #[.string jk, .bool jo, .bool jb, .slice A jl.length c, .int .i64 jn], .agg #[.int .i64 jc, .int .i64 jv, .string jt, .int .i64 jw, .int .i64 jh]] ∧ OwnL wx wr.heap.size 63 2 cellEn (.slice A jl.length c) jl) (vs 59) wy := by
              have h := hdep 9 (by decide)
              rw [G9] at h
              exact h
            dsimp only at h9
            have t59 := hin 59 (by decide)
            clear hin hout hdep
            replace hK : ∀ v w', Below wr.heap.size wr w' → Moved [] wy w' → (fun (v : Value) (wx : World) => v = .agg #[.int .i64 jc, .int .i64 jv, .string jt, .int .i64 jw, .int .i64 jh]) v w' → K (b.put (some 70) v) w' := fun v w' q1 q2 q3 => hK v w' q1 q2 (Eq.mpr (G11 _ _) q3)
            refine ⟨wanted_plain rfl, ?_⟩
            obtain ⟨A9, c9, e9, o9⟩ := h9
            go_simp
            exact hK _ _ hb (moved_refl _) rfl
          case opx_12 =>
            intro vs wy b hin hout hb hdep K hK
            clear hin hout hdep
            replace hK : ∀ v w', Below wr.heap.size wr w' → Moved [] wy w' → (fun (v : Value) (wx : World) => BlkG wr.heap.size 31 5 v wx) v w' → K (b.put (some 10) v) w' := fun v w' q1 q2 q3 => hK v w' q1 q2 (Eq.mpr (G12 _ _) q3)
            refine ⟨wanted_plain rfl, ?_⟩
            go_simp
            exact hK _ _ (below_alloc hb _) (.inl (below_alloc (Below.refl _ _) _)) ⟨_, _, rfl, hb.size, heap_new rfl, rfl⟩
          case opx_13 =>
            intro vs wy b hin hout hb hdep K hK
            clear hin hout hdep
            replace hK : ∀ v w', Below wr.heap.size wr w' → Moved [] wy w' → (fun (v : Value) (wx : World) => BlkG wr.heap.size 33 5 v wx) v w' → K (b.put (some 11) v) w' := fun v w' q1 q2 q3 => hK v w' q1 q2 (Eq.mpr (G13 _ _) q3)
            refine ⟨wanted_plain rfl, ?_⟩
            go_simp
            exact hK _ _ (below_alloc hb _) (.inl (below_alloc (Below.refl _ _) _)) ⟨_, _, rfl, hb.size, heap_new rfl, rfl⟩
          case opx_14 =>
            intro vs wy b hin hout hb hdep K hK
            have h12 : (fun (v : Value) (wx : World) => BlkG wr.heap.size 31 5 v wx) (vs 10) wy := by
              have h := hdep 12 (by decide)
              rw [G12] at h
              exact h
            dsimp only at h12
            have h10 : (fun (v : Value) (wx : World) => ∃ A c, v = .agg #[.string jk, .bool jo, .bool jb, .slice A jl.length c, .int .i64 jn] ∧ OwnL wx wr.heap.size 63 2 cellEn (.slice A jl.length c) jl) (vs 69) wy := by
              have h := hdep 10 (by decide)
              rw [G10] at h
              exact h
            dsimp only at h10
            have t10 := hin 10 (by decide)
            have t69 := hin 69 (by decide)
            clear hin hout hdep
            replace hK : ∀ v w', Below wr.heap.size wr w' → Moved [31] wy w' → (fun (v : Value) (wx : World) => FinG wr.heap.size 31 (fun cs wx => ∃ A c, cs = #[.string jk, .bool jo, .bool jb, .slice A jl.length c, .int .i64 jn] ∧ OwnL wx wr.heap.size 63 2 cellEn (.slice A jl.length c) jl) v wx) (vs 10) w' → K (b.put (none) v) w' := fun v w' q1 q2 q3 => hK v w' q1 q2 (Eq.mpr (G14 _ _) q3)
            refine ⟨wanted_plain rfl, ?_⟩
            obtain ⟨g9, cs9, e8, hB9, hg9, hn9⟩ := h12
            obtain ⟨x0, x1, x2, x3, x4, rfl⟩ := five_of hn9
            obtain ⟨_, _, _, _, _, _⟩ := five_cells hg9
            obtain ⟨A9, c9, e9, o9⟩ := h10
            go_simp
            have hst := store5 (.string jk) (.bool jo) (.bool jb) (.slice A9 jl.length c9) (.int .i64 jn) hg9 hn9
            refine hK undef _ ?_ (.inr ⟨g9, 31, by simp, hst.2⟩) ⟨g9, _, e8, hB9, hst.1, A9, c9, rfl, firm_own (TS := [31]) (by decide) _ _ (.inr ⟨g9, 31, by simp, hst.2⟩) o9⟩
            obtain ⟨_, _, _, _, _, hgr⟩ := hst.2
            exact Below.grown hb hgr hb.size (fun k hk => by obtain rfl := Option.some.inj hk; exact hB9)
          case opx_15 =>
            intro vs wy b hin hout hb hdep K hK
            have h13 : (fun (v : Value) (wx : World) => BlkG wr.heap.size 33 5 v wx) (vs 11) wy := by
              have h := hdep 13 (by decide)
              rw [G13] at h
              exact h
            dsimp only at h13
            have h11 : (fun (v : Value) (wx : World) => v = .agg #[.int .i64 jc, .int .i64 jv, .string jt, .int .i64 jw, .int .i64 jh]) (vs 70) wy := by
              have h := hdep 11 (by decide)
              rw [G11] at h
              exact h
            dsimp only at h11
            have t11 := hin 11 (by decide)
            have t70 := hin 70 (by decide)
            clear hin hout hdep
            replace hK : ∀ v w', Below wr.heap.size wr w' → Moved [33] wy w' → (fun (v : Value) (wx : World) => FinG wr.heap.size 33 (fun cs wx => cs = #[.int .i64 jc, .int .i64 jv, .string jt, .int .i64 jw, .int .i64 jh]) v wx) (vs 11) w' → K (b.put (none) v) w' := fun v w' q1 q2 q3 => hK v w' q1 q2 (Eq.mpr (G15 _ _) q3)
            refine ⟨wanted_plain rfl, ?_⟩
            obtain ⟨g9, cs9, e8, hB9, hg9, hn9⟩ := h13
            obtain ⟨x0, x1, x2, x3, x4, rfl⟩ := five_of hn9
            obtain ⟨_, _, _, _, _, _⟩ := five_cells hg9
            have e9 := h11
            go_simp
            have hst := store5 (.int .i64 jc) (.int .i64 jv) (.string jt) (.int .i64 jw) (.int .i64 jh) hg9 hn9
            refine hK undef _ ?_ (.inr ⟨g9, 33, by simp, hst.2⟩) ⟨g9, _, e8, hB9, hst.1, rfl⟩
            obtain ⟨_, _, _, _, _, hgr⟩ := hst.2
            exact Below.grown hb hgr hb.size (fun k hk => by obtain rfl := Option.some.inj hk; exact hB9)
        case finx =>
          intro vs wz b hin hbeq hb hall
          have f14 : (fun (v : Value) (wx : World) => FinG wr.heap.size 31 (fun cs wx => ∃ A c, cs = #[.string jk, .bool jo, .bool jb, .slice A jl.length c, .int .i64 jn] ∧ OwnL wx wr.heap.size 63 2 cellEn (.slice A jl.length c) jl) v wx) (vs 10) wz := by
            have h := hall 14 (by decide)
            rw [G14] at h
            exact h
          dsimp only at f14
          have f15 : (fun (v : Value) (wx : World) => FinG wr.heap.size 33 (fun cs wx => cs = #[.int .i64 jc, .int .i64 jv, .string jt, .int .i64 jw, .int .i64 jh]) v wx) (vs 11) wz := by
            have h := hall 15 (by decide)
            rw [G15] at h
            exact h
          dsimp only at f15
          clear hall hin
          subst hbeq
          simp only [actAt, slots, List.foldl_cons, List.foldl_nil, List.setIfInBounds_toArray, List.set_cons_zero, List.set_cons_succ]
          obtain ⟨g1, cs1, e1, _, hg1, A1, c1_, rfl, hO1⟩ := f14
          obtain ⟨g2, cs2, e2, _, hg2, rfl⟩ := f15
          go_wp2_with fail
          go_meet
          exact ⟨g1, g2, A1, c1_, (by first | exact e1 | rfl), (by first | exact e2 | rfl), hg1, hg2, hO1, hb⟩
      case rest =>
      obtain ⟨g1x, g2x, Ax, cx, rfl, rfl, hr1, hr2, ho1, b⟩ := hcut
      obtain ⟨W7, hxW7⟩ : ∃ W, wc = W := ⟨_, rfl⟩
      rw [hxW7] at hr1 hr2 ho1 b ⊢
      clear hxW7
      have RP := hide (show W7.heap[W1.heap.size]? = some (.cells #[.string p.kind, .bool p.on, .bool p.broken, .slice (some ⟨g, o, none⟩) p.cells.length c, .int .i64 p.count] 31 (0, 0) : Obj) from row_on b RP.out)
      have RX := hide (show W7.heap[W1.heap.size + 1]? = some (.cells #[.string ⟨#[80, 117, 116]⟩, .string xk, .int .i64 xv, .string xt] 37 (0, 0) : Obj) from row_on b RX.out)
      have RQ := hide (show W7.heap[W3.heap.size]? = some (.cells #[.string qk, .bool qo, .bool qb, .slice AW3 (ql).length cW3, .int .i64 qn] 31 (0, 0) : Obj) from row_on b RQ.out)
      have RR := hide (show W7.heap[W3.heap.size + 1]? = some (.cells #[.int .i64 0, .int .i64 (ql.length : Int), .string qt, .int .i64 qw, .int .i64 qh] 33 (0, 0) : Obj) from row_on b RR.out)
      have RY := hide (show W7.heap[W5.heap.size]? = some (.cells #[.string yk, .bool yo, .bool yb, .slice AW5 (yl).length cW5, .int .i64 yn] 31 (0, 0) : Obj) from row_on b RY.out)
      have RS := hide (show W7.heap[W5.heap.size + 1]? = some (.cells #[.int .i64 0, .int .i64 xv, .string ⟨#[]⟩, .int .i64 0, .int .i64 0] 33 (0, 0) : Obj) from row_on b RS.out)
      have OP := hide (show RdL W7 2 cellEn (.slice (some ⟨g, o, none⟩) p.cells.length c) p.cells from RdL.below OP.out b (Nat.le_refl _))
      have OQ := hide (show RdL W7 2 cellEn (.slice AW3 (ql).length cW3) ql from RdL.below OQ.out b (Nat.le_refl _))
      have OY := hide (show RdL W7 2 cellEn (.slice AW5 (yl).length cW5) yl from RdL.below OY.out b (Nat.le_refl _))
      have BW := below_then BW b
      have RA := hide hr1
      have RB := hide hr2
      have OA := hide (show RdL W7 2 cellEn (.slice Ax jl.length cx) jl from ho1.rd (fun _ => rfl))
      clear hr1 hr2 ho1
      have hgk := Nat.lt_of_lt_of_le hgk b.size
      have BL := below_then BL b
      have h0 := (b.cell (p := ⟨g, _, none⟩) hgz).trans h0
      obtain ⟨_, _, _, _, _, _⟩ := five_cells RP.out
      obtain ⟨_, _, _, _, _⟩ := four_cells RX.out
      obtain ⟨_, _, _, _, _, _⟩ := five_cells RQ.out
      obtain ⟨_, _, _, _, _, _⟩ := five_cells RR.out
      obtain ⟨_, _, _, _, _, _⟩ := five_cells RY.out
      obtain ⟨_, _, _, _, _, _⟩ := five_cells RS.out
      obtain ⟨_, _, _, _, _, _⟩ := five_cells RA.out
      obtain ⟨_, _, _, _, _, _⟩ := five_cells RB.out
      go_upto_region 15 with fail
      clear hzP hgz
      have hzP : W1.heap.size < W7.heap.size := (Array.getElem?_eq_some_iff.1 RP.out).1
      have hzQ : W3.heap.size < W7.heap.size := (Array.getElem?_eq_some_iff.1 RQ.out).1
      have hgz : g < W7.heap.size := hgk
      go_cut [12, 13] from 52 to 96 (fun s1 s2 wx => ∃ g1 g2 A c, s1 = .pointer (some ⟨g1, 0, none⟩) ∧ s2 = .pointer (some ⟨g2, 0, none⟩) ∧ wx.heap[g1]? = some (.cells #[.string bk, .bool bo, .bool bb, .slice A bl.length c, .int .i64 bn] 31 (0, 0) : Obj) ∧ wx.heap[g2]? = some (.cells #[.int .i64 bc, .int .i64 bv, .string bt, .int .i64 bw, .int .i64 bh] 33 (0, 0) : Obj) ∧ OwnL wx W7.heap.size 63 2 cellEn (.slice A bl.length c) bl ∧ Below W7.heap.size W7 wx)
      case first =>
        have h0inv : Below W7.heap.size W7 W7.drew := (Below.refl _ _).drew
        obtain ⟨G, hGdef⟩ : ∃ G : Nat → Value → World → Prop, G = (fun j v wx => match j with | 0 => (v = .agg #[.string qk, .bool qo, .bool qb, .slice AW3 (ql).length cW3, .int .i64 qn]) | 1 => (v = .pointer (some ⟨W1.heap.size, 3, none⟩)) | 2 => (v = .slice (some ⟨g, o, none⟩) p.cells.length c) | 3 => (v = .int .i64 k) | 4 => (v = .pointer (some ⟨g, o + k * 2, none⟩)) | 5 => (v = .pointer (some ⟨g, o + k * 2, none⟩)) | 6 => (v = .string y.key) | 7 => (v = .agg #[.string ⟨#[71, 101, 116]⟩, .string y.key, .int .i64 0, .string ⟨#[]⟩]) | 8 => (∃ A c, v = .tuple #[.agg #[.string bk, .bool bo, .bool bb, .slice A bl.length c, .int .i64 bn], .agg #[.int .i64 bc, .int .i64 bv, .string bt, .int .i64 bw, .int .i64 bh]] ∧ OwnL wx W7.heap.size 63 2 cellEn (.slice A bl.length c) bl) | 9 => (∃ A c, v = .tuple #[.agg #[.string bk, .bool bo, .bool bb, .slice A bl.length c, .int .i64 bn], .agg #[.int .i64 bc, .int .i64 bv, .string bt, .int .i64 bw, .int .i64 bh]] ∧ OwnL wx W7.heap.size 63 2 cellEn (.slice A bl.length c) bl) | 10 => (∃ A c, v = .agg #[.string bk, .bool bo, .bool bb, .slice A bl.length c, .int .i64 bn] ∧ OwnL wx W7.heap.size 63 2 cellEn (.slice A bl.length c) bl) | 11 => (v = .agg #[.int .i64 bc, .int .i64 bv, .string bt, .int .i64 bw, .int .i64 bh]) | 12 => (BlkG W7.heap.size 31 5 v wx) | 13 => (BlkG W7.heap.size 33 5 v wx) | 14 => (FinG W7.heap.size 31 (fun cs wx => ∃ A c, cs = #[.string bk, .bool bo, .bool bb, .slice A bl.length c, .int .i64 bn] ∧ OwnL wx W7.heap.size 63 2 cellEn (.slice A bl.length c) bl) v wx) | 15 => (FinG W7.heap.size 33 (fun cs wx => cs = #[.int .i64 bc, .int .i64 bv, .string bt, .int .i64 bw, .int .i64 bh]) v wx) | _ => True) := ⟨_, rfl⟩
        have G0 : ∀ v wx, G 0 v wx = (v = .agg #[.string qk, .bool qo, .bool qb, .slice AW3 (ql).length cW3, .int .i64 qn]) := fun v wx => (congrFun (congrFun (congrFun hGdef 0) v) wx).trans rfl
        have G1 : ∀ v wx, G 1 v wx = (v = .pointer (some ⟨W1.heap.size, 3, none⟩)) := fun v wx => (congrFun (congrFun (congrFun hGdef 1) v) wx).trans rfl
        have G2 : ∀ v wx, G 2 v wx = (v = .slice (some ⟨g, o, none⟩) p.cells.length c) := fun v wx => (congrFun (congrFun (congrFun hGdef 2) v) wx).trans rfl
        have G3 : ∀ v wx, G 3 v wx = (v = .int .i64 k) := fun v wx => (congrFun (congrFun (congrFun hGdef 3) v) wx).trans rfl
        have G4 : ∀ v wx, G 4 v wx = (v = .pointer (some ⟨g, o + k * 2, none⟩)) := fun v wx => (congrFun (congrFun (congrFun hGdef 4) v) wx).trans rfl
        have G5 : ∀ v wx, G 5 v wx = (v = .pointer (some ⟨g, o + k * 2, none⟩)) := fun v wx => (congrFun (congrFun (congrFun hGdef 5) v) wx).trans rfl
        have G6 : ∀ v wx, G 6 v wx = (v = .string y.key) := fun v wx => (congrFun (congrFun (congrFun hGdef 6) v) wx).trans rfl
        have G7 : ∀ v wx, G 7 v wx = (v = .agg #[.string ⟨#[71, 101, 116]⟩, .string y.key, .int .i64 0, .string ⟨#[]⟩]) := fun v wx => (congrFun (congrFun (congrFun hGdef 7) v) wx).trans rfl
        have G8 : ∀ v wx, G 8 v wx = (∃ A c, v = .tuple #[.agg #[.string bk, .bool bo, .bool bb, .slice A bl.length c, .int .i64 bn], .agg #[.int .i64 bc, .int .i64 bv, .string bt, .int .i64 bw, .int .i64 bh]] ∧ OwnL wx W7.heap.size 63 2 cellEn (.slice A bl.length c) bl) := fun v wx => (congrFun (congrFun (congrFun hGdef 8) v) wx).trans rfl
        have G9 : ∀ v wx, G 9 v wx = (∃ A c, v = .tuple #[.agg #[.string bk, .bool bo, .bool bb, .slice A bl.length c, .int .i64 bn], .agg #[.int .i64 bc, .int .i64 bv, .string bt, .int .i64 bw, .int .i64 bh]] ∧ OwnL wx W7.heap.size 63 2 cellEn (.slice A bl.length c) bl) := fun v wx => (congrFun (congrFun (congrFun hGdef 9) v) wx).trans rfl
        have G10 : ∀ v wx, G 10 v wx = (∃ A c, v = .agg #[.string bk, .bool bo, .bool bb, .slice A bl.length c, .int .i64 bn] ∧ OwnL wx W7.heap.size 63 2 cellEn (.slice A bl.length c) bl) := fun v wx => (congrFun (congrFun (congrFun hGdef 10) v) wx).trans rfl
        have G11 : ∀ v wx, G 11 v wx = (v = .agg #[.int .i64 bc, .int .i64 bv, .string bt, .int .i64 bw, .int .i64 bh]) := fun v wx => (congrFun (congrFun (congrFun hGdef 11) v) wx).trans rfl
        have G12 : ∀ v wx, G 12 v wx = (BlkG W7.heap.size 31 5 v wx) := fun v wx => (congrFun (congrFun (congrFun hGdef 12) v) wx).trans rfl
        have G13 : ∀ v wx, G 13 v wx = (BlkG W7.heap.size 33 5 v wx) := fun v wx => (congrFun (congrFun (congrFun hGdef 13) v) wx).trans rfl
        have G14 : ∀ v wx, G 14 v wx = (FinG W7.heap.size 31 (fun cs wx => ∃ A c, cs = #[.string bk, .bool bo, .bool bb, .slice A bl.length c, .int .i64 bn] ∧ OwnL wx W7.heap.size 63 2 cellEn (.slice A bl.length c) bl) v wx) := fun v wx => (congrFun (congrFun (congrFun hGdef 14) v) wx).trans rfl
        have G15 : ∀ v wx, G 15 v wx = (FinG W7.heap.size 33 (fun cs wx => cs = #[.int .i64 bc, .int .i64 bv, .string bt, .int .i64 bw, .int .i64 bh]) v wx) := fun v wx => (congrFun (congrFun (congrFun hGdef 15) v) wx).trans rfl
        have Gn : ∀ j v wx, G (j + 16) v wx = True := fun j v wx => (congrFun (congrFun (congrFun hGdef _) v) wx).trans rfl
        clear hGdef
        have firm0 : ∀ j v, Firm [] (G j v) := by
          intro j v
          match j with
          | 0 => rw [show G 0 v = (fun wx => v = .agg #[.string qk, .bool qo, .bool qb, .slice AW3 (ql).length cW3, .int .i64 qn]) from funext (G0 v)]; exact firm_const _
          | 1 => rw [show G 1 v = (fun wx => v = .pointer (some ⟨W1.heap.size, 3, none⟩)) from funext (G1 v)]; exact firm_const _
          | 2 => rw [show G 2 v = (fun wx => v = .slice (some ⟨g, o, none⟩) p.cells.length c) from funext (G2 v)]; exact firm_const _
          | 3 => rw [show G 3 v = (fun wx => v = .int .i64 k) from funext (G3 v)]; exact firm_const _
          | 4 => rw [show G 4 v = (fun wx => v = .pointer (some ⟨g, o + k * 2, none⟩)) from funext (G4 v)]; exact firm_const _
          | 5 => rw [show G 5 v = (fun wx => v = .pointer (some ⟨g, o + k * 2, none⟩)) from funext (G5 v)]; exact firm_const _
          | 6 => rw [show G 6 v = (fun wx => v = .string y.key) from funext (G6 v)]; exact firm_const _
          | 7 => rw [show G 7 v = (fun wx => v = .agg #[.string ⟨#[71, 101, 116]⟩, .string y.key, .int .i64 0, .string ⟨#[]⟩]) from funext (G7 v)]; exact firm_const _
          | 8 => rw [show G 8 v = (fun wx => ∃ A c, v = .tuple #[.agg #[.string bk, .bool bo, .bool bb, .slice A bl.length c, .int .i64 bn], .agg #[.int .i64 bc, .int .i64 bv, .string bt, .int .i64 bw, .int .i64 bh]] ∧ OwnL wx W7.heap.size 63 2 cellEn (.slice A bl.length c) bl) from funext (G8 v)]; exact firm_ex fun _ => firm_ex fun _ => firm_and (firm_const _) (firm_own (by decide))
          | 9 => rw [show G 9 v = (fun wx => ∃ A c, v = .tuple #[.agg #[.string bk, .bool bo, .bool bb, .slice A bl.length c, .int .i64 bn], .agg #[.int .i64 bc, .int .i64 bv, .string bt, .int .i64 bw, .int .i64 bh]] ∧ OwnL wx W7.heap.size 63 2 cellEn (.slice A bl.length c) bl) from funext (G9 v)]; exact firm_ex fun _ => firm_ex fun _ => firm_and (firm_const _) (firm_own (by decide))
          | 10 => rw [show G 10 v = (fun wx => ∃ A c, v = .agg #[.string bk, .bool bo, .bool bb, .slice A bl.length c, .int .i64 bn] ∧ OwnL wx W7.heap.size 63 2 cellEn (.slice A bl.length c) bl) from funext (G10 v)]; exact firm_ex fun _ => firm_ex fun _ => firm_and (firm_const _) (firm_own (by decide))
          | 11 => rw [show G 11 v = (fun wx => v = .agg #[.int .i64 bc, .int .i64 bv, .string bt, .int .i64 bw, .int .i64 bh]) from funext (G11 v)]; exact firm_const _
          | 12 => rw [show G 12 v = (fun wx => BlkG W7.heap.size 31 5 v wx) from funext (G12 v)]; exact firm_blk
          | 13 => rw [show G 13 v = (fun wx => BlkG W7.heap.size 33 5 v wx) from funext (G13 v)]; exact firm_blk
          | 14 => rw [show G 14 v = (fun wx => FinG W7.heap.size 31 (fun cs wx => ∃ A c, cs = #[.string bk, .bool bo, .bool bb, .slice A bl.length c, .int .i64 bn] ∧ OwnL wx W7.heap.size 63 2 cellEn (.slice A bl.length c) bl) v wx) from funext (G14 v)]; exact firm_fin (by decide) (fun _ => firm_ex fun _ => firm_ex fun _ => firm_and (firm_const _) (firm_own (by decide)))
          | 15 => rw [show G 15 v = (fun wx => FinG W7.heap.size 33 (fun cs wx => cs = #[.int .i64 bc, .int .i64 bv, .string bt, .int .i64 bw, .int .i64 bh]) v wx) from funext (G15 v)]; exact firm_fin (by decide) (fun _ => firm_const _)
          | j + 16 => rw [show G (j + 16) v = (fun wx => True) from funext (Gn j v)]; exact firm_const _
        have firm1 : ∀ j v, j ≠ 14 → Firm [31] (G j v) := by
          intro j v
          match j with
          | 0 => intro h14; rw [show G 0 v = (fun wx => v = .agg #[.string qk, .bool qo, .bool qb, .slice AW3 (ql).length cW3, .int .i64 qn]) from funext (G0 v)]; exact firm_const _
          | 1 => intro h14; rw [show G 1 v = (fun wx => v = .pointer (some ⟨W1.heap.size, 3, none⟩)) from funext (G1 v)]; exact firm_const _
          | 2 => intro h14; rw [show G 2 v = (fun wx => v = .slice (some ⟨g, o, none⟩) p.cells.length c) from funext (G2 v)]; exact firm_const _
          | 3 => intro h14; rw [show G 3 v = (fun wx => v = .int .i64 k) from funext (G3 v)]; exact firm_const _
          | 4 => intro h14; rw [show G 4 v = (fun wx => v = .pointer (some ⟨g, o + k * 2, none⟩)) from funext (G4 v)]; exact firm_const _
          | 5 => intro h14; rw [show G 5 v = (fun wx => v = .pointer (some ⟨g, o + k * 2, none⟩)) from funext (G5 v)]; exact firm_const _
          | 6 => intro h14; rw [show G 6 v = (fun wx => v = .string y.key) from funext (G6 v)]; exact firm_const _
          | 7 => intro h14; rw [show G 7 v = (fun wx => v = .agg #[.string ⟨#[71, 101, 116]⟩, .string y.key, .int .i64 0, .string ⟨#[]⟩]) from funext (G7 v)]; exact firm_const _
          | 8 => intro h14; rw [show G 8 v = (fun wx => ∃ A c, v = .tuple #[.agg #[.string bk, .bool bo, .bool bb, .slice A bl.length c, .int .i64 bn], .agg #[.int .i64 bc, .int .i64 bv, .string bt, .int .i64 bw, .int .i64 bh]] ∧ OwnL wx W7.heap.size 63 2 cellEn (.slice A bl.length c) bl) from funext (G8 v)]; exact firm_ex fun _ => firm_ex fun _ => firm_and (firm_const _) (firm_own (by decide))
          | 9 => intro h14; rw [show G 9 v = (fun wx => ∃ A c, v = .tuple #[.agg #[.string bk, .bool bo, .bool bb, .slice A bl.length c, .int .i64 bn], .agg #[.int .i64 bc, .int .i64 bv, .string bt, .int .i64 bw, .int .i64 bh]] ∧ OwnL wx W7.heap.size 63 2 cellEn (.slice A bl.length c) bl) from funext (G9 v)]; exact firm_ex fun _ => firm_ex fun _ => firm_and (firm_const _) (firm_own (by decide))
          | 10 => intro h14; rw [show G 10 v = (fun wx => ∃ A c, v = .agg #[.string bk, .bool bo, .bool bb, .slice A bl.length c, .int .i64 bn] ∧ OwnL wx W7.heap.size 63 2 cellEn (.slice A bl.length c) bl) from funext (G10 v)]; exact firm_ex fun _ => firm_ex fun _ => firm_and (firm_const _) (firm_own (by decide))
          | 11 => intro h14; rw [show G 11 v = (fun wx => v = .agg #[.int .i64 bc, .int .i64 bv, .string bt, .int .i64 bw, .int .i64 bh]) from funext (G11 v)]; exact firm_const _
          | 12 => intro h14; rw [show G 12 v = (fun wx => BlkG W7.heap.size 31 5 v wx) from funext (G12 v)]; exact firm_blk
          | 13 => intro h14; rw [show G 13 v = (fun wx => BlkG W7.heap.size 33 5 v wx) from funext (G13 v)]; exact firm_blk
          | 14 => intro h14; exact absurd rfl h14
          | 15 => intro h14; rw [show G 15 v = (fun wx => FinG W7.heap.size 33 (fun cs wx => cs = #[.int .i64 bc, .int .i64 bv, .string bt, .int .i64 bw, .int .i64 bh]) v wx) from funext (G15 v)]; exact firm_fin (by decide) (fun _ => firm_const _)
          | j + 16 => intro _; rw [show G (j + 16) v = (fun wx => True) from funext (Gn j v)]; exact firm_const _
        have firm2 : ∀ j v, j ≠ 15 → Firm [33] (G j v) := by
          intro j v
          match j with
          | 0 => intro h15; rw [show G 0 v = (fun wx => v = .agg #[.string qk, .bool qo, .bool qb, .slice AW3 (ql).length cW3, .int .i64 qn]) from funext (G0 v)]; exact firm_const _
          | 1 => intro h15; rw [show G 1 v = (fun wx => v = .pointer (some ⟨W1.heap.size, 3, none⟩)) from funext (G1 v)]; exact firm_const _
          | 2 => intro h15; rw [show G 2 v = (fun wx => v = .slice (some ⟨g, o, none⟩) p.cells.length c) from funext (G2 v)]; exact firm_const _
          | 3 => intro h15; rw [show G 3 v = (fun wx => v = .int .i64 k) from funext (G3 v)]; exact firm_const _
          | 4 => intro h15; rw [show G 4 v = (fun wx => v = .pointer (some ⟨g, o + k * 2, none⟩)) from funext (G4 v)]; exact firm_const _
          | 5 => intro h15; rw [show G 5 v = (fun wx => v = .pointer (some ⟨g, o + k * 2, none⟩)) from funext (G5 v)]; exact firm_const _
          | 6 => intro h15; rw [show G 6 v = (fun wx => v = .string y.key) from funext (G6 v)]; exact firm_const _
          | 7 => intro h15; rw [show G 7 v = (fun wx => v = .agg #[.string ⟨#[71, 101, 116]⟩, .string y.key, .int .i64 0, .string ⟨#[]⟩]) from funext (G7 v)]; exact firm_const _
          | 8 => intro h15; rw [show G 8 v = (fun wx => ∃ A c, v = .tuple #[.agg #[.string bk, .bool bo, .bool bb, .slice A bl.length c, .int .i64 bn], .agg #[.int .i64 bc, .int .i64 bv, .string bt, .int .i64 bw, .int .i64 bh]] ∧ OwnL wx W7.heap.size 63 2 cellEn (.slice A bl.length c) bl) from funext (G8 v)]; exact firm_ex fun _ => firm_ex fun _ => firm_and (firm_const _) (firm_own (by decide))
          | 9 => intro h15; rw [show G 9 v = (fun wx => ∃ A c, v = .tuple #[.agg #[.string bk, .bool bo, .bool bb, .slice A bl.length c, .int .i64 bn], .agg #[.int .i64 bc, .int .i64 bv, .string bt, .int .i64 bw, .int .i64 bh]] ∧ OwnL wx W7.heap.size 63 2 cellEn (.slice A bl.length c) bl) from funext (G9 v)]; exact firm_ex fun _ => firm_ex fun _ => firm_and (firm_const _) (firm_own (by decide))
          | 10 => intro h15; rw [show G 10 v = (fun wx => ∃ A c, v = .agg #[.string bk, .bool bo, .bool bb, .slice A bl.length c, .int .i64 bn] ∧ OwnL wx W7.heap.size 63 2 cellEn (.slice A bl.length c) bl) from funext (G10 v)]; exact firm_ex fun _ => firm_ex fun _ => firm_and (firm_const _) (firm_own (by decide))
          | 11 => intro h15; rw [show G 11 v = (fun wx => v = .agg #[.int .i64 bc, .int .i64 bv, .string bt, .int .i64 bw, .int .i64 bh]) from funext (G11 v)]; exact firm_const _
          | 12 => intro h15; rw [show G 12 v = (fun wx => BlkG W7.heap.size 31 5 v wx) from funext (G12 v)]; exact firm_blk
          | 13 => intro h15; rw [show G 13 v = (fun wx => BlkG W7.heap.size 33 5 v wx) from funext (G13 v)]; exact firm_blk
          | 14 => intro h15; rw [show G 14 v = (fun wx => FinG W7.heap.size 31 (fun cs wx => ∃ A c, cs = #[.string bk, .bool bo, .bool bb, .slice A bl.length c, .int .i64 bn] ∧ OwnL wx W7.heap.size 63 2 cellEn (.slice A bl.length c) bl) v wx) from funext (G14 v)]; exact firm_fin (by decide) (fun _ => firm_ex fun _ => firm_ex fun _ => firm_and (firm_const _) (firm_own (by decide)))
          | 15 => intro h15; exact absurd rfl h15
          | j + 16 => intro _; rw [show G (j + 16) v = (fun wx => True) from funext (Gn j v)]; exact firm_const _
        refine wp_region_abs W7.heap.size W7 [12, 13, 71, 72, 73, 74, 75, 76, 77, 78, 79, 80, 81, 82] (fun j => match j with | 0 => 72 | 1 => 73 | 2 => 74 | 3 => 75 | 4 => 76 | 5 => 77 | 6 => 78 | 7 => 79 | 8 => 80 | 9 => 71 | 10 => 81 | 11 => 82 | 12 => 12 | 13 => 13 | 14 => 12 | 15 => 13 | _ => 0) (fun j => match j with | 0 => [] | 1 => [] | 2 => [1] | 3 => [] | 4 => [1, 2, 3] | 5 => [1, 2, 3, 4] | 6 => [1, 2, 3, 4, 5] | 7 => [1, 2, 3, 4, 5, 6] | 8 => [0, 1, 2, 3, 4, 5, 6, 7] | 9 => [0, 1, 2, 3, 4, 5, 6, 7, 8] | 10 => [0, 1, 2, 3, 4, 5, 6, 7, 8, 9] | 11 => [0, 1, 2, 3, 4, 5, 6, 7, 8, 9] | 12 => [] | 13 => [] | 14 => [0, 1, 2, 3, 4, 5, 6, 7, 8, 9, 10, 12] | 15 => [0, 1, 2, 3, 4, 5, 6, 7, 8, 9, 11, 13] | _ => []) G (fun j => match j with | 0 => [] | 1 => [] | 2 => [] | 3 => [] | 4 => [] | 5 => [] | 6 => [] | 7 => [] | 8 => [] | 9 => [] | 10 => [] | 11 => [] | 12 => [] | 13 => [] | 14 => [31] | 15 => [33] | _ => []) 97 (by kernel_rfl) (by kernel_rfl) rfl (by decide) h0inv ?firmz ?stpz ?finz
        case firmz =>
          intro i j hj _ v
          match i with
          | 0 => exact firm0 j v
          | 1 => exact firm0 j v
          | 2 => exact firm0 j v
          | 3 => exact firm0 j v
          | 4 => exact firm0 j v
          | 5 => exact firm0 j v
          | 6 => exact firm0 j v
          | 7 => exact firm0 j v
          | 8 => exact firm0 j v
          | 9 => exact firm0 j v
          | 10 => exact firm0 j v
          | 11 => exact firm0 j v
          | 12 => exact firm0 j v
          | 13 => exact firm0 j v
          | 14 => exact firm1 j v hj
          | 15 => exact firm2 j v hj
          | i + 16 => exact firm0 j v
        case stpz =>
          refine StepsFrom.cons ?opz_0 (StepsFrom.cons ?opz_1 (StepsFrom.cons ?opz_2 (StepsFrom.cons ?opz_3 (StepsFrom.cons ?opz_4 (StepsFrom.cons ?opz_5 (StepsFrom.cons ?opz_6 (StepsFrom.cons ?opz_7 (StepsFrom.cons ?opz_8 (StepsFrom.cons ?opz_9 (StepsFrom.cons ?opz_10 (StepsFrom.cons ?opz_11 (StepsFrom.cons ?opz_12 (StepsFrom.cons ?opz_13 (StepsFrom.cons ?opz_14 (StepsFrom.cons ?opz_15 (StepsFrom.nil))))))))))))))))
          case opz_0 =>
            intro vs wy b hin hout hb hdep K hK
            have t5 : b.tmps[5]? = some (.pointer (some ⟨W3.heap.size, 0, none⟩)) := (hout 5 (by decide)).trans rfl
            clear hin hout hdep
            replace hK : ∀ v w', Below W7.heap.size W7 w' → Moved [] wy w' → (fun (v : Value) (wx : World) => v = .agg #[.string qk, .bool qo, .bool qb, .slice AW3 (ql).length cW3, .int .i64 qn]) v w' → K (b.put (some 72) v) w' := fun v w' q1 q2 q3 => hK v w' q1 q2 (Eq.mpr (G0 _ _) q3)
            refine ⟨wanted_plain rfl, ?_⟩
            have KW : ∀ k : Nat, wy.cell? ⟨W3.heap.size, k, none⟩ = _ := fun k => hb.cell hzQ
            go_simp
            exact hK _ _ hb (moved_refl _) rfl
          case opz_1 =>
            intro vs wy b hin hout hb hdep K hK
            have t3 : b.tmps[3]? = some (.pointer (some ⟨W1.heap.size, 0, none⟩)) := (hout 3 (by decide)).trans rfl
            clear hin hout hdep
            replace hK : ∀ v w', Below W7.heap.size W7 w' → Moved [] wy w' → (fun (v : Value) (wx : World) => v = .pointer (some ⟨W1.heap.size, 3, none⟩)) v w' → K (b.put (some 73) v) w' := fun v w' q1 q2 q3 => hK v w' q1 q2 (Eq.mpr (G1 _ _) q3)
            refine ⟨wanted_plain rfl, ?_⟩
            go_simp
            exact hK _ _ hb (moved_refl _) rfl
          case opz_2 =>
            intro vs wy b hin hout hb hdep K hK
            have h1 : (fun (v : Value) (wx : World) => v = .pointer (some ⟨W1.heap.size, 3, none⟩)) (vs 73) wy := by
              have h := hdep 1 (by decide)
              rw [G1] at h
              exact h
            dsimp only at h1
            have t73 := hin 73 (by decide)
            clear hin hout hdep
            replace hK : ∀ v w', Below W7.heap.size W7 w' → Moved [] wy w' → (fun (v : Value) (wx : World) => v = .slice (some ⟨g, o, none⟩) p.cells.length c) v w' → K (b.put (some 74) v) w' := fun v w' q1 q2 q3 => hK v w' q1 q2 (Eq.mpr (G2 _ _) q3)
            refine ⟨wanted_plain rfl, ?_⟩
            have KW : ∀ k : Nat, wy.cell? ⟨W1.heap.size, k, none⟩ = _ := fun k => hb.cell hzP
            go_simp
            exact hK _ _ hb (moved_refl _) rfl
          case opz_3 =>
            intro vs wy b hin hout hb hdep K hK
            have t9 : b.tmps[9]? = some (.int .i64 k) := (hout 9 (by decide)).trans rfl
            clear hin hout hdep
            replace hK : ∀ v w', Below W7.heap.size W7 w' → Moved [] wy w' → (fun (v : Value) (wx : World) => v = .int .i64 k) v w' → K (b.put (some 75) v) w' := fun v w' q1 q2 q3 => hK v w' q1 q2 (Eq.mpr (G3 _ _) q3)
            refine ⟨wanted_plain rfl, ?_⟩
            go_simp
            exact hK _ _ hb (moved_refl _) rfl
          case opz_4 =>
            intro vs wy b hin hout hb hdep K hK
            have h2 : (fun (v : Value) (wx : World) => v = .slice (some ⟨g, o, none⟩) p.cells.length c) (vs 74) wy := by
              have h := hdep 2 (by decide)
              rw [G2] at h
              exact h
            dsimp only at h2
            have h3 : (fun (v : Value) (wx : World) => v = .int .i64 k) (vs 75) wy := by
              have h := hdep 3 (by decide)
              rw [G3] at h
              exact h
            dsimp only at h3
            have t74 := hin 74 (by decide)
            have t75 := hin 75 (by decide)
            clear hin hout hdep
            replace hK : ∀ v w', Below W7.heap.size W7 w' → Moved [] wy w' → (fun (v : Value) (wx : World) => v = .pointer (some ⟨g, o + k * 2, none⟩)) v w' → K (b.put (some 76) v) w' := fun v w' q1 q2 q3 => hK v w' q1 q2 (Eq.mpr (G4 _ _) q3)
            refine ⟨wanted_plain rfl, ?_⟩
            go_simp
            exact hK _ _ hb (moved_refl _) rfl
          case opz_5 =>
            intro vs wy b hin hout hb hdep K hK
            have h4 : (fun (v : Value) (wx : World) => v = .pointer (some ⟨g, o + k * 2, none⟩)) (vs 76) wy := by
              have h := hdep 4 (by decide)
              rw [G4] at h
              exact h
            dsimp only at h4
            have t76 := hin 76 (by decide)
            clear hin hout hdep
            replace hK : ∀ v w', Below W7.heap.size W7 w' → Moved [] wy w' → (fun (v : Value) (wx : World) => v = .pointer (some ⟨g, o + k * 2, none⟩)) v w' → K (b.put (some 77) v) w' := fun v w' q1 q2 q3 => hK v w' q1 q2 (Eq.mpr (G5 _ _) q3)
            refine ⟨wanted_plain rfl, ?_⟩
            go_simp
            exact hK _ _ hb (moved_refl _) rfl
          case opz_6 =>
            intro vs wy b hin hout hb hdep K hK
            have h5 : (fun (v : Value) (wx : World) => v = .pointer (some ⟨g, o + k * 2, none⟩)) (vs 77) wy := by
              have h := hdep 5 (by decide)
              rw [G5] at h
              exact h
            dsimp only at h5
            have t77 := hin 77 (by decide)
            clear hin hout hdep
            replace hK : ∀ v w', Below W7.heap.size W7 w' → Moved [] wy w' → (fun (v : Value) (wx : World) => v = .string y.key) v w' → K (b.put (some 78) v) w' := fun v w' q1 q2 q3 => hK v w' q1 q2 (Eq.mpr (G6 _ _) q3)
            refine ⟨wanted_plain rfl, ?_⟩
            have KC : ∀ j : Nat, wy.cell? ⟨g, j, none⟩ = _ := fun j => hb.cell hgz
            go_simp
            exact hK _ _ hb (moved_refl _) rfl
          case opz_7 =>
            intro vs wy b hin hout hb hdep K hK
            have h6 : (fun (v : Value) (wx : World) => v = .string y.key) (vs 78) wy := by
              have h := hdep 6 (by decide)
              rw [G6] at h
              exact h
            dsimp only at h6
            have t78 := hin 78 (by decide)
            clear hin hout hdep
            replace hK : ∀ v w', Below W7.heap.size W7 w' → Moved [] wy w' → (fun (v : Value) (wx : World) => v = .agg #[.string ⟨#[71, 101, 116]⟩, .string y.key, .int .i64 0, .string ⟨#[]⟩]) v w' → K (b.put (some 79) v) w' := fun v w' q1 q2 q3 => hK v w' q1 q2 (Eq.mpr (G7 _ _) q3)
            refine ⟨wanted_plain rfl, ?_⟩
            go_simp
            exact hK _ _ hb (moved_refl _) rfl
          case opz_8 =>
            intro vs wy b hin hout hb hdep K hK
            have h0 : (fun (v : Value) (wx : World) => v = .agg #[.string qk, .bool qo, .bool qb, .slice AW3 (ql).length cW3, .int .i64 qn]) (vs 72) wy := by
              have h := hdep 0 (by decide)
              rw [G0] at h
              exact h
            dsimp only at h0
            have h7 : (fun (v : Value) (wx : World) => v = .agg #[.string ⟨#[71, 101, 116]⟩, .string y.key, .int .i64 0, .string ⟨#[]⟩]) (vs 79) wy := by
              have h := hdep 7 (by decide)
              rw [G7] at h
              exact h
            dsimp only at h7
            have t72 := hin 72 (by decide)
            have t79 := hin 79 (by decide)
            clear hin hout hdep
            replace hK : ∀ v w', Below W7.heap.size W7 w' → Moved [] wy w' → (fun (v : Value) (wx : World) => ∃ A c, v = .tuple #[.agg #[.string bk, .bool bo, .bool bb, .slice A bl.length c, .int .i64 bn], .agg #[.int .i64 bc, .int .i64 bv, .string bt, .int .i64 bw, .int .i64 bh]] ∧ OwnL wx W7.heap.size 63 2 cellEn (.slice A bl.length c) bl) v w' → K (b.put (some 80) v) w' := fun v w' q1 q2 q3 => hK v w' q1 q2 (Eq.mpr (G8 _ _) q3)
            refine ⟨wanted_plain rfl, ?_⟩
            go_simp
            refine (iCallCore_x ⟨qk, qo, qb, ql, qn⟩ (⟨⟨#[71, 101, 116]⟩, y.key, 0, ⟨#[]⟩⟩ : Pu.CallD) _ _ bk bt bo bb bl bn bc bv bw bh (HM.out.below (below_then BW hb) hlM) (HT.out.below (below_then BW hb) hlT) (HE.out.below (below_then BW hb) hlE) hwq.out hw2.out ⟨RdL.below OQ.out hb (Nat.le_refl _), hql.2⟩ (by show ql.length ≤ 16777216; have := hql.1; omega) ht2.out HRB2).mono ?_
            rintro e wz ⟨A9, c9, rfl, oS, bS⟩
            exact hK _ _ (below_then hb bS) (.inl bS) ⟨A9, c9, rfl, OwnL.mono oS hb.size⟩
          case opz_9 =>
            intro vs wy b hin hout hb hdep K hK
            have h8 : (fun (v : Value) (wx : World) => ∃ A c, v = .tuple #[.agg #[.string bk, .bool bo, .bool bb, .slice A bl.length c, .int .i64 bn], .agg #[.int .i64 bc, .int .i64 bv, .string bt, .int .i64 bw, .int .i64 bh]] ∧ OwnL wx W7.heap.size 63 2 cellEn (.slice A bl.length c) bl) (vs 80) wy := by
              have h := hdep 8 (by decide)
              rw [G8] at h
              exact h
            dsimp only at h8
            have t80 := hin 80 (by decide)
            clear hin hout hdep
            replace hK : ∀ v w', Below W7.heap.size W7 w' → Moved [] wy w' → (fun (v : Value) (wx : World) => ∃ A c, v = .tuple #[.agg #[.string bk, .bool bo, .bool bb, .slice A bl.length c, .int .i64 bn], .agg #[.int .i64 bc, .int .i64 bv, .string bt, .int .i64 bw, .int .i64 bh]] ∧ OwnL wx W7.heap.size 63 2 cellEn (.slice A bl.length c) bl) v w' → K (b.put (some 71) v) w' := fun v w' q1 q2 q3 => hK v w' q1 q2 (Eq.mpr (G9 _ _) q3)
            refine ⟨wanted_plain rfl, ?_⟩
            obtain ⟨A9, c9, e9, o9⟩ := h8
            go_simp
            exact hK _ _ hb (moved_refl _) ⟨A9, c9, rfl, o9⟩
          case opz_10 =>
            intro vs wy b hin hout hb hdep K hK
            have h9 : (fun (v : Value) (wx : World) => ∃ A c, v = .tuple #[.agg #[.string bk, .bool bo, .bool bb, .slice A bl.length c, .int .i64 bn], .agg #[.int .i64 bc, .int .i64 bv, .string bt, .int .i64 bw, .int .i64 bh]] ∧ OwnL wx W7.heap.size 63 2 cellEn (.slice A bl.length c) bl) (vs 71) wy := by
              have h := hdep 9 (by decide)
              rw [G9] at h
              exact h
            dsimp only at h9
            have t71 := hin 71 (by decide)
            clear hin hout hdep
            replace hK : ∀ v w', Below W7.heap.size W7 w' → Moved [] wy w' → (fun (v : Value) (wx : World) => ∃ A c, v = .agg #[.string bk, .bool bo, .bool bb, .slice A bl.length c, .int .i64 bn] ∧ OwnL wx W7.heap.size 63 2 cellEn (.slice A bl.length c) bl) v w' → K (b.put (some 81) v) w' := fun v w' q1 q2 q3 => hK v w' q1 q2 (Eq.mpr (G10 _ _) q3)
            refine ⟨wanted_plain rfl, ?_⟩
            obtain ⟨A9, c9, e9, o9⟩ := h9
            go_simp
            exact hK _ _ hb (moved_refl _) ⟨A9, c9, rfl, o9⟩
          case opz_11 =>
            intro vs wy b hin hout hb hdep K hK
            have h9 : (fun (v : Value) (wx : World) => ∃ A c, v = .tuple #[.agg #[.string bk, .bool bo, .bool bb, .slice A bl.length c, .int .i64 bn], .agg #[.int .i64 bc, .int .i64 bv, .string bt, .int .i64 bw, .int .i64 bh]] ∧ OwnL wx W7.heap.size 63 2 cellEn (.slice A bl.length c) bl) (vs 71) wy := by
              have h := hdep 9 (by decide)
              rw [G9] at h
              exact h
            dsimp only at h9
            have t71 := hin 71 (by decide)
            clear hin hout hdep
            replace hK : ∀ v w', Below W7.heap.size W7 w' → Moved [] wy w' → (fun (v : Value) (wx : World) => v = .agg #[.int .i64 bc, .int .i64 bv, .string bt, .int .i64 bw, .int .i64 bh]) v w' → K (b.put (some 82) v) w' := fun v w' q1 q2 q3 => hK v w' q1 q2 (Eq.mpr (G11 _ _) q3)
            refine ⟨wanted_plain rfl, ?_⟩
            obtain ⟨A9, c9, e9, o9⟩ := h9
            go_simp
            exact hK _ _ hb (moved_refl _) rfl
          case opz_12 =>
            intro vs wy b hin hout hb hdep K hK
            clear hin hout hdep
            replace hK : ∀ v w', Below W7.heap.size W7 w' → Moved [] wy w' → (fun (v : Value) (wx : World) => BlkG W7.heap.size 31 5 v wx) v w' → K (b.put (some 12) v) w' := fun v w' q1 q2 q3 => hK v w' q1 q2 (Eq.mpr (G12 _ _) q3)
            refine ⟨wanted_plain rfl, ?_⟩
            go_simp
            exact hK _ _ (below_alloc hb _) (.inl (below_alloc (Below.refl _ _) _)) ⟨_, _, rfl, hb.size, heap_new rfl, rfl⟩
          case opz_13 =>
            intro vs wy b hin hout hb hdep K hK
            clear hin hout hdep
            replace hK : ∀ v w', Below W7.heap.size W7 w' → Moved [] wy w' → (fun (v : Value) (wx : World) => BlkG W7.heap.size 33 5 v wx) v w' → K (b.put (some 13) v) w' := fun v w' q1 q2 q3 => hK v w' q1 q2 (Eq.mpr (G13 _ _) q3)
            refine ⟨wanted_plain rfl, ?_⟩
            go_simp
            exact hK _ _ (below_alloc hb _) (.inl (below_alloc (Below.refl _ _) _)) ⟨_, _, rfl, hb.size, heap_new rfl, rfl⟩
          case opz_14 =>
            intro vs wy b hin hout hb hdep K hK
            have h12 : (fun (v : Value) (wx : World) => BlkG W7.heap.size 31 5 v wx) (vs 12) wy := by
              have h := hdep 12 (by decide)
              rw [G12] at h
              exact h
            dsimp only at h12
            have h10 : (fun (v : Value) (wx : World) => ∃ A c, v = .agg #[.string bk, .bool bo, .bool bb, .slice A bl.length c, .int .i64 bn] ∧ OwnL wx W7.heap.size 63 2 cellEn (.slice A bl.length c) bl) (vs 81) wy := by
              have h := hdep 10 (by decide)
              rw [G10] at h
              exact h
            dsimp only at h10
            have t12 := hin 12 (by decide)
            have t81 := hin 81 (by decide)
            clear hin hout hdep
            replace hK : ∀ v w', Below W7.heap.size W7 w' → Moved [31] wy w' → (fun (v : Value) (wx : World) => FinG W7.heap.size 31 (fun cs wx => ∃ A c, cs = #[.string bk, .bool bo, .bool bb, .slice A bl.length c, .int .i64 bn] ∧ OwnL wx W7.heap.size 63 2 cellEn (.slice A bl.length c) bl) v wx) (vs 12) w' → K (b.put (none) v) w' := fun v w' q1 q2 q3 => hK v w' q1 q2 (Eq.mpr (G14 _ _) q3)
            refine ⟨wanted_plain rfl, ?_⟩
            obtain ⟨g9, cs9, e8, hB9, hg9, hn9⟩ := h12
            obtain ⟨x0, x1, x2, x3, x4, rfl⟩ := five_of hn9
            obtain ⟨_, _, _, _, _, _⟩ := five_cells hg9
            obtain ⟨A9, c9, e9, o9⟩ := h10
            go_simp
            have hst := store5 (.string bk) (.bool bo) (.bool bb) (.slice A9 bl.length c9) (.int .i64 bn) hg9 hn9
            refine hK undef _ ?_ (.inr ⟨g9, 31, by simp, hst.2⟩) ⟨g9, _, e8, hB9, hst.1, A9, c9, rfl, firm_own (TS := [31]) (by decide) _ _ (.inr ⟨g9, 31, by simp, hst.2⟩) o9⟩
            obtain ⟨_, _, _, _, _, hgr⟩ := hst.2
            exact Below.grown hb hgr hb.size (fun k hk => by obtain rfl := Option.some.inj hk; exact hB9)
          case opz_15 =>
            intro vs wy b hin hout hb hdep K hK
            have h13 : (fun (v : Value) (wx : World) => BlkG W7.heap.size 33 5 v wx) (vs 13) wy := by
              have h := hdep 13 (by decide)
              rw [G13] at h
              exact h
            dsimp only at h13
            have h11 : (fun (v : Value) (wx : World) => v = .agg #[.int .i64 bc, .int .i64 bv, .string bt, .int .i64 bw, .int .i64 bh]) (vs 82) wy := by
              have h := hdep 11 (by decide)
              rw [G11] at h
              exact h
            dsimp only at h11
            have t13 := hin 13 (by decide)
            have t82 := hin 82 (by decide)
            clear hin hout hdep
            replace hK : ∀ v w', Below W7.heap.size W7 w' → Moved [33] wy w' → (fun (v : Value) (wx : World) => FinG W7.heap.size 33 (fun cs wx => cs = #[.int .i64 bc, .int .i64 bv, .string bt, .int .i64 bw, .int .i64 bh]) v wx) (vs 13) w' → K (b.put (none) v) w' := fun v w' q1 q2 q3 => hK v w' q1 q2 (Eq.mpr (G15 _ _) q3)
            refine ⟨wanted_plain rfl, ?_⟩
            obtain ⟨g9, cs9, e8, hB9, hg9, hn9⟩ := h13
            obtain ⟨x0, x1, x2, x3, x4, rfl⟩ := five_of hn9
            obtain ⟨_, _, _, _, _, _⟩ := five_cells hg9
            have e9 := h11
            go_simp
            have hst := store5 (.int .i64 bc) (.int .i64 bv) (.string bt) (.int .i64 bw) (.int .i64 bh) hg9 hn9
            refine hK undef _ ?_ (.inr ⟨g9, 33, by simp, hst.2⟩) ⟨g9, _, e8, hB9, hst.1, rfl⟩
            obtain ⟨_, _, _, _, _, hgr⟩ := hst.2
            exact Below.grown hb hgr hb.size (fun k hk => by obtain rfl := Option.some.inj hk; exact hB9)
        case finz =>
          intro vs wz b hin hbeq hb hall
          have f14 : (fun (v : Value) (wx : World) => FinG W7.heap.size 31 (fun cs wx => ∃ A c, cs = #[.string bk, .bool bo, .bool bb, .slice A bl.length c, .int .i64 bn] ∧ OwnL wx W7.heap.size 63 2 cellEn (.slice A bl.length c) bl) v wx) (vs 12) wz := by
            have h := hall 14 (by decide)
            rw [G14] at h
            exact h
          dsimp only at f14
          have f15 : (fun (v : Value) (wx : World) => FinG W7.heap.size 33 (fun cs wx => cs = #[.int .i64 bc, .int .i64 bv, .string bt, .int .i64 bw, .int .i64 bh]) v wx) (vs 13) wz := by
            have h := hall 15 (by decide)
            rw [G15] at h
            exact h
          dsimp only at f15
          clear hall hin
          subst hbeq
          simp only [actAt, slots, List.foldl_cons, List.foldl_nil, List.setIfInBounds_toArray, List.set_cons_zero, List.set_cons_succ]
          obtain ⟨g1, cs1, e1, _, hg1, A1, c1_, rfl, hO1⟩ := f14
          obtain ⟨g2, cs2, e2, _, hg2, rfl⟩ := f15
          go_wp2_with fail
          go_meet
          exact ⟨g1, g2, A1, c1_, (by first | exact e1 | rfl), (by first | exact e2 | rfl), hg1, hg2, hO1, hb⟩
      case rest =>
      obtain ⟨g1z, g2z, Az, cz, rfl, rfl, hr1, hr2, ho1, b⟩ := hcut
      obtain ⟨W8, hxW8⟩ : ∃ W, wc = W := ⟨_, rfl⟩
      rw [hxW8] at hr1 hr2 ho1 b ⊢
      clear hxW8
      have RP := hide (show W8.heap[W1.heap.size]? = some (.cells #[.string p.kind, .bool p.on, .bool p.broken, .slice (some ⟨g, o, none⟩) p.cells.length c, .int .i64 p.count] 31 (0, 0) : Obj) from row_on b RP.out)
      have RX := hide (show W8.heap[W1.heap.size + 1]? = some (.cells #[.string ⟨#[80, 117, 116]⟩, .string xk, .int .i64 xv, .string xt] 37 (0, 0) : Obj) from row_on b RX.out)
      have RQ := hide (show W8.heap[W3.heap.size]? = some (.cells #[.string qk, .bool qo, .bool qb, .slice AW3 (ql).length cW3, .int .i64 qn] 31 (0, 0) : Obj) from row_on b RQ.out)
      have RR := hide (show W8.heap[W3.heap.size + 1]? = some (.cells #[.int .i64 0, .int .i64 (ql.length : Int), .string qt, .int .i64 qw, .int .i64 qh] 33 (0, 0) : Obj) from row_on b RR.out)
      have RY := hide (show W8.heap[W5.heap.size]? = some (.cells #[.string yk, .bool yo, .bool yb, .slice AW5 (yl).length cW5, .int .i64 yn] 31 (0, 0) : Obj) from row_on b RY.out)
      have RS := hide (show W8.heap[W5.heap.size + 1]? = some (.cells #[.int .i64 0, .int .i64 xv, .string ⟨#[]⟩, .int .i64 0, .int .i64 0] 33 (0, 0) : Obj) from row_on b RS.out)
      have RA := hide (show W8.heap[g1x]? = some (.cells #[.string jk, .bool jo, .bool jb, .slice Ax jl.length cx, .int .i64 jn] 31 (0, 0) : Obj) from row_on b RA.out)
      have RB := hide (show W8.heap[g2x]? = some (.cells #[.int .i64 jc, .int .i64 jv, .string jt, .int .i64 jw, .int .i64 jh] 33 (0, 0) : Obj) from row_on b RB.out)
      have OP := hide (show RdL W8 2 cellEn (.slice (some ⟨g, o, none⟩) p.cells.length c) p.cells from RdL.below OP.out b (Nat.le_refl _))
      have OQ := hide (show RdL W8 2 cellEn (.slice AW3 (ql).length cW3) ql from RdL.below OQ.out b (Nat.le_refl _))
      have OY := hide (show RdL W8 2 cellEn (.slice AW5 (yl).length cW5) yl from RdL.below OY.out b (Nat.le_refl _))
      have OA := hide (show RdL W8 2 cellEn (.slice Ax jl.length cx) jl from RdL.below OA.out b (Nat.le_refl _))
      have BW := below_then BW b
      have RC := hide hr1
      have RD := hide hr2
      have OC := hide (show RdL W8 2 cellEn (.slice Az bl.length cz) bl from ho1.rd (fun _ => rfl))
      clear hr1 hr2 ho1
      have hgk := Nat.lt_of_lt_of_le hgk b.size
      have BL := below_then BL b
      have h0 := (b.cell (p := ⟨g, _, none⟩) hgz).trans h0
      have hre : (y.key.toList == xk.toList) = false → (⟨jc, jv, jt, jw, jh⟩ : Pu.ReplyD) = ⟨bc, bv, bt, bw, bh⟩ := fun hne => by
        have h := hg3.out y hym hne
        rw [HRA.out, HRB.out] at h
        exact h
      obtain ⟨_, _, _, _, _, _⟩ := five_cells RP.out
      obtain ⟨_, _, _, _, _⟩ := four_cells RX.out
      obtain ⟨_, _, _, _, _, _⟩ := five_cells RQ.out
      obtain ⟨_, _, _, _, _, _⟩ := five_cells RR.out
      obtain ⟨_, _, _, _, _, _⟩ := five_cells RY.out
      obtain ⟨_, _, _, _, _, _⟩ := five_cells RS.out
      obtain ⟨_, _, _, _, _, _⟩ := five_cells RA.out
      obtain ⟨_, _, _, _, _, _⟩ := five_cells RB.out
      obtain ⟨_, _, _, _, _, _⟩ := five_cells RC.out
      obtain ⟨_, _, _, _, _, _⟩ := five_cells RD.out
      rcases (by cases (y.key.toList == xk.toList) <;> simp : (y.key.toList == xk.toList) = false ∨ (y.key.toList == xk.toList) = true) with hkk | hkk
      · have hrr := hre hkk
        injection hrr with e1 e2 e3 e4 e5
        subst e1 e2 e3 e4 e5
        have hneq := fun w => neq_reply jc jv jw jh jt jt rfl w
        go_wp2
        go_quiet (fail)
        go_wp2
        go_roundw
        case rel => exact ⟨k + 1, by omega, by go_num, below_drewN BL _⟩
        case measure => simp [intOf]; omega
      · skip
        go_wp2
        go_quiet (fail)
        go_wp2
        go_roundw
        case rel => exact ⟨k + 1, by omega, by go_num, below_drewN BL _⟩
        case measure => simp [intOf]; omega
  · go_enter Tryz.func6, Tryz.ntmps6
    go_wp2_with fail
    refine (big_c _ _ _ H0.out).mono ?_; rintro e w' ⟨rfl, rfl⟩
    rw [hbig]
    go_wp2
    go_ret
    exact ⟨rfl, Below.refl _ _⟩

/-- The laid heap meets the condition. -/
theorem door_met (os : Os) (args : Array Value) : laidMetH Tryz.prog Rows.fnPutGetRow.laid ((World.laidAll Tryz.prog os Rows.fnPutGetRow.laid).forCall (fun _ _ => 0) ⟨#[], args, []⟩).memory := by
  rw [MakeChecks.laidMetH_plain _ _ _ (by kernel_rfl)]
  exact laidMet_laidAll _ (by kernel_rfl) (by kernel_rfl)

set_option maxRecDepth 100000 in
theorem lifted (os : Os) (started : os.Started) (H : Type) (enc : TypeId × Value → H) :
    ReturnsInHanded {} Tryz.checked os 6 .any (fun w args => (Rows.fnPutGetSpec.pre enc Tryz.prog Tryz.f6 [] false w args ∧ laidMetH Tryz.prog Rows.fnPutGetRow.laid w) ∧ sizedMet enc Tryz.prog Tryz.f6 (OpenSpec.ofChange Rows.fnPutGetSpec) false w args) (Rows.fnPutGetSpec.post enc Tryz.prog Tryz.f6 false true false false) := by
  refine wrapV (C := Tryz.checked) (X := fun w _ => laidMetH Tryz.prog Rows.fnPutGetRow.laid w) (fun _ _ _ hh h => h.of_heap hh) own started (by kernel_rfl) Tryz.func6
    (ChangeSpec.witness_shaped (enc := enc) (C := Tryz.checked) (os := os) (X := fun w _ => laidMetH Tryz.prog Rows.fnPutGetRow.laid w) false (World.laidAll Tryz.prog os Rows.fnPutGetRow.laid) #[.slice none 0 0] 8 (World.laidAll_os _ _ _) (World.shaped_of_ZipB (by kernel_rfl) (by kernel_rfl)) (by kernel_rfl) (by kernel_rfl) (by kernel_rfl) (door_met os _)) ?_
  intro W base args ds gs before hval0 hW hL hS
  have hval : ∀ (j : Nat) t v, Tryz.f6.params[j]? = some t → args[j]? = some v → Value.okWide Tryz.prog W .any base t v := hval0
  have hW' := hW
  obtain ⟨p, q, hA0, hV, rfl, hfz, hnd⟩ := hW
  have hA : DataW.TrodAll enc Tryz.prog W 0 (fun _ => true) true Tryz.f6.params.toList args.toList ds p := hA0
  rw [Tryz.params6] at hA hval
  obtain ⟨v0, vs0, d0, ds0, p0, q0, hargs, rfl, rfl, h0, r0⟩ := trodAll_cons hA
  obtain ⟨rfl, rfl, rfl⟩ := trodAll_nil r0
  obtain rfl : args = #[v0] := by cases args; simp_all
  obtain ⟨rfl, rfl⟩ := trodVars_none hV
  obtain ⟨a0, hv0⟩ := open_bytes (hval 0 55 v0 rfl rfl) h0
  refine (walk W (pow10_of (met_reads hL (by kernel_rfl) (.tail _ (.tail _ (.head _))))) (errsyn_of (met_reads hL (by kernel_rfl) (.tail _ (.tail _ (.tail _ (.tail _ (.tail _ (.head _)))))))) (maxc_of hS) v0 a0 hv0).mono fun e W' ⟨he, hg⟩ => ?_
  subst he
  exact ⟨_, rfl, law_postV (tb := 4) (by kernel_rfl) (by kernel_rfl) (by kernel_rfl) hW' hg rfl Tryz.underlying4 rfl rfl rfl⟩

theorem over : Rows.FnPutGetSaid :=
  OpenClaim.holds_of_wide 6 Tryz.f6 rfl rfl rfl rfl rfl rfl rfl ⟨rfl, rfl, rfl, rfl, rfl⟩ rfl rfl rfl rfl rfl (by kernel_rfl) Tryz.func6 (by kernel_rfl)
    (of_decide_eq_true (by kernel_rfl)) (by unfold Func.isWrapper; first | (rw [if_pos (by decide +kernel)]; kernel_rfl) | (rw [if_neg (by decide +kernel)]; exact ⟨rfl, rfl⟩))
    (fun os started H enc _ => lifted os started H enc)

/-- The statement: the tied card. -/
theorem proved : Rows.FnPutGetCardSaid :=
  Claim7.holds_tied_plain_at .later [] [.data, .data, .data, .data, .sentinel, .sentinel, .pinned] true (true, "15f444c23c93b2403839749698f01a757c47729f86feb889b0929fa11f9b21ff") true over (fun _ h => by cases h) (by kernel_rfl) (fun _ h => by cases h) fnPutGet_row_tie rfl ⟨rfl, rfl⟩ (by kernel_rfl) rfl
    (fun f fn hf hfn => by
      obtain rfl : 6 = f := Option.some.inj ((show Tryz.prog.funcNamed Rows.fnPutGetRow.func = some 6 by kernel_rfl).symm.trans hf)
      obtain rfl : Tryz.f6 = fn := Option.some.inj (Tryz.func6.symm.trans hfn)
      exact ⟨by kernel_rfl, fun j t ht => by
        rw [Tryz.params6] at ht
        have hm : t ∈ [55] := by simpa using Array.mem_of_getElem? ht
        have hall : ([55].all fun u => !Tryz.prog.wantsStandIn u) = true := by kernel_rfl
        exact (show Tryz.prog.wantsStandIn t = false by simpa using List.all_eq_true.1 hall t hm)⟩)
    (by kernel_rfl)
#print axioms proved
end Go.Proofs.YtllmcnmongaahaaGreatDoor.fnPutGet
