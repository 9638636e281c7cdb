/- FnCallWants: for every input the law returns true, and its arguments read afterwards as they read before. No condition besides those of the statement itself. -/
import Derived.Test.YtllmcnmongaahaaGreatDoorM0
import Derived.Test.YtllmcnmongaahaaGreatDoorCards
import Derived.Test.YtllmcnmongaahaaGreatDoorTie
import Derived.LaidMore
import Derived.SevenTiedAt
import Derived.Stop.Joined
import Derived.Lay
import Derived.Test.YtllmcnmongaahaaGreatDoorM1
import Derived.Test.YtllmcnmongaahaaGreatDoorM3
import Derived.Test.YtllmcnmongaahaaGreatDoorM6
import Derived.ShutString
namespace Go.Proofs.YtllmcnmongaahaaGreatDoor.fnCallWants
open Go.ChangeShapes Go.WideShapes Go.ChangeAt Go.RowKit
set_option maxRecDepth 100000
open Go.ChangeMaps (open_string shut_string)
set_option linter.unusedVariables false

theorem own : ownKnob Tryz.prog.godebug = none := by kernel_rfl

set_option maxHeartbeats 8000000 in
/-- The walk: the Go text returns true. -/
theorem walk (w : World) (hT : Pow10 w) (hE : ErrSyn w) (hM : MaxC w) (v0 : Value) (a0 : List UInt8) (hv0 : RdL w 1 byteEn v0 a0) :
    Calls Tryz.prog 7 #[v0] w fun e w' => e = .returned (.bool true) ∧ Below w.heap.size w w' := by
  have hlM := hM.lt
  have hlT := hT.lt
  have hlE := hE.lt
  have HM := hide hM
  have HT := hide hT
  have HE := hide hE
  have H0 := hide hv0
  clear hv0 hM hT hE
  rcases hbig : decide (4096 < a0.length) with _ | _
  · have hl : a0.length ≤ 4096 := by simpa using hbig
    go_enter Tryz.func7, Tryz.ntmps7
    go_wp2_with fail
    refine (big_c _ _ _ H0.out).mono ?_; rintro e w' ⟨rfl, rfl⟩
    rw [hbig]
    go_wp2_with fail
    refine (drawCallCore_c _ _ _ H0.out hl).mono ?_; rintro e W1 ⟨p, s, x, rfl, o1, hp, hx, BW⟩
    obtain ⟨A, c, rfl, _, _, _⟩ := RdL.open_ o1
    have HP := hide hp
    have HX := hide hx
    clear hp hx hbig
    unfold coreV callV
    rcases hcp : Pu.coreB p with _ | _
    · replace hcp := hide hcp
      have OP := hide o1
      clear o1
      obtain ⟨W2, hW2⟩ : ∃ W, Hid ((W1.alloc (.cells #[.string p.kind, .bool p.on, .bool p.broken, .slice A p.cells.length c, .int .i64 p.count] 31 : Obj)).alloc (.cells #[.string x.method, .string x.key, .int .i64 x.value, .string x.text] 37 : Obj) = W) := ⟨_, rfl⟩
      have b : Below W1.heap.size W1 W2 := by rw [← hW2.out]; exact below_alloc (below_alloc (Below.refl _ _) _) _
      have OP := hide (show RdL W2 2 cellEn (.slice A p.cells.length c) p.cells from RdL.below OP.out b (Nat.le_refl _))
      have BW := below_then BW b
      have RP := hide (show W2.heap[W1.heap.size]? = some (.cells #[.string p.kind, .bool p.on, .bool p.broken, .slice A p.cells.length c, .int .i64 p.count] 31 (0, 0) : Obj) by rw [← hW2.out]; exact heap_old (by simp) (heap_new rfl))
      have RX := hide (show W2.heap[W1.heap.size + 1]? = some (.cells #[.string x.method, .string x.key, .int .i64 x.value, .string x.text] 37 (0, 0) : Obj) by rw [← hW2.out]; exact heap_new (by simp))
      have EP := hide (show ((W1.alloc (.cells #[.string p.kind, .bool p.on, .bool p.broken, .slice A p.cells.length c, .int .i64 p.count] 31 : Obj)).alloc (.cells #[.string x.method, .string x.key, .int .i64 x.value, .string x.text] 37 : Obj)).heap[W1.heap.size]? = some (.cells #[.string p.kind, .bool p.on, .bool p.broken, .slice A p.cells.length c, .int .i64 p.count] 31 (0, 0) : Obj) by rw [hW2.out]; exact RP.out)
      obtain ⟨_, _, _, _, _, _⟩ := five_cells EP.out
      have EX := hide (show ((W1.alloc (.cells #[.string p.kind, .bool p.on, .bool p.broken, .slice A p.cells.length c, .int .i64 p.count] 31 : Obj)).alloc (.cells #[.string x.method, .string x.key, .int .i64 x.value, .string x.text] 37 : Obj)).heap[W1.heap.size + 1]? = some (.cells #[.string x.method, .string x.key, .int .i64 x.value, .string x.text] 37 (0, 0) : Obj) by rw [hW2.out]; exact RX.out)
      obtain ⟨_, _, _, _, _⟩ := four_cells EX.out
      have HR := hide (show Pu.callF p x = (⟨p.kind, p.on, p.broken, p.cells, p.count⟩, ⟨7, 0, ⟨#[]⟩, 0, 0⟩) from Pu.callF_bad (by rw [hcp.out]; rfl))
      obtain ⟨_, _, _, _, _, _⟩ := five_cells RP.out
      obtain ⟨_, _, _, _, _⟩ := four_cells RX.out
      go_wp2_with fail
      rw [hW2.out]
      refine (iCallCore_x p x _ _ p.kind ⟨#[]⟩ p.on p.broken p.cells p.count 7 0 0 0 (HM.out.below BW hlM) (HT.out.below BW hlT) (HE.out.below BW hlE) HP.out.wf HX.out.wf ⟨OP.out, HP.out.2.2.wf⟩ (by have := HP.out.2.2.1; omega) HX.out.text HR).mono ?_; rintro e W3 ⟨A5, c5, rfl, o5, b⟩
      have RP := hide (show W3.heap[W1.heap.size]? = some (.cells #[.string p.kind, .bool p.on, .bool p.broken, .slice A p.cells.length c, .int .i64 p.count] 31 (0, 0) : Obj) from row_on b RP.out)
      have RX := hide (show W3.heap[W1.heap.size + 1]? = some (.cells #[.string x.method, .string x.key, .int .i64 x.value, .string x.text] 37 (0, 0) : Obj) from row_on b RX.out)
      have OP := hide (show RdL W3 2 cellEn (.slice A p.cells.length c) p.cells from RdL.below OP.out b (Nat.le_refl _))
      have BW := below_then BW b
      have OQ := hide (show RdL W3 2 cellEn (.slice A5 (p.cells).length c5) (p.cells) from o5.rd (fun _ => rfl))
      clear o5
      obtain ⟨W4, hW4⟩ : ∃ W, Hid ((W3.alloc (.cells #[.string p.kind, .bool p.on, .bool p.broken, .slice A5 (p.cells).length c5, .int .i64 p.count] 31 : Obj)).alloc (.cells #[.int .i64 7, .int .i64 0, .string ⟨#[]⟩, .int .i64 0, .int .i64 0] 33 : Obj) = W) := ⟨_, rfl⟩
      have b : Below W3.heap.size W3 W4 := by rw [← hW4.out]; exact below_alloc (below_alloc (Below.refl _ _) _) _
      have RP := hide (show W4.heap[W1.heap.size]? = some (.cells #[.string p.kind, .bool p.on, .bool p.broken, .slice A p.cells.length c, .int .i64 p.count] 31 (0, 0) : Obj) from row_on b RP.out)
      have RX := hide (show W4.heap[W1.heap.size + 1]? = some (.cells #[.string x.method, .string x.key, .int .i64 x.value, .string x.text] 37 (0, 0) : Obj) from row_on b RX.out)
      have OP := hide (show RdL W4 2 cellEn (.slice A p.cells.length c) p.cells from RdL.below OP.out b (Nat.le_refl _))
      have OQ := hide (show RdL W4 2 cellEn (.slice A5 (p.cells).length c5) p.cells from RdL.below OQ.out b (Nat.le_refl _))
      have BW := below_then BW b
      have RQ := hide (show W4.heap[W3.heap.size]? = some (.cells #[.string p.kind, .bool p.on, .bool p.broken, .slice A5 (p.cells).length c5, .int .i64 p.count] 31 (0, 0) : Obj) by rw [← hW4.out]; exact heap_old (by simp) (heap_new rfl))
      have RR := hide (show W4.heap[W3.heap.size + 1]? = some (.cells #[.int .i64 7, .int .i64 0, .string ⟨#[]⟩, .int .i64 0, .int .i64 0] 33 (0, 0) : Obj) by rw [← hW4.out]; exact heap_new (by simp))
      have EP := hide (show ((W3.alloc (.cells #[.string p.kind, .bool p.on, .bool p.broken, .slice A5 (p.cells).length c5, .int .i64 p.count] 31 : Obj)).alloc (.cells #[.int .i64 7, .int .i64 0, .string ⟨#[]⟩, .int .i64 0, .int .i64 0] 33 : Obj)).heap[W1.heap.size]? = some (.cells #[.string p.kind, .bool p.on, .bool p.broken, .slice A p.cells.length c, .int .i64 p.count] 31 (0, 0) : Obj) by rw [hW4.out]; exact RP.out)
      obtain ⟨_, _, _, _, _, _⟩ := five_cells EP.out
      have EX := hide (show ((W3.alloc (.cells #[.string p.kind, .bool p.on, .bool p.broken, .slice A5 (p.cells).length c5, .int .i64 p.count] 31 : Obj)).alloc (.cells #[.int .i64 7, .int .i64 0, .string ⟨#[]⟩, .int .i64 0, .int .i64 0] 33 : Obj)).heap[W1.heap.size + 1]? = some (.cells #[.string x.method, .string x.key, .int .i64 x.value, .string x.text] 37 (0, 0) : Obj) by rw [hW4.out]; exact RX.out)
      obtain ⟨_, _, _, _, _⟩ := four_cells EX.out
      have EQ := hide (show ((W3.alloc (.cells #[.string p.kind, .bool p.on, .bool p.broken, .slice A5 (p.cells).length c5, .int .i64 p.count] 31 : Obj)).alloc (.cells #[.int .i64 7, .int .i64 0, .string ⟨#[]⟩, .int .i64 0, .int .i64 0] 33 : Obj)).heap[W3.heap.size]? = some (.cells #[.string p.kind, .bool p.on, .bool p.broken, .slice A5 (p.cells).length c5, .int .i64 p.count] 31 (0, 0) : Obj) by rw [hW4.out]; exact RQ.out)
      obtain ⟨_, _, _, _, _, _⟩ := five_cells EQ.out
      have ER := hide (show ((W3.alloc (.cells #[.string p.kind, .bool p.on, .bool p.broken, .slice A5 (p.cells).length c5, .int .i64 p.count] 31 : Obj)).alloc (.cells #[.int .i64 7, .int .i64 0, .string ⟨#[]⟩, .int .i64 0, .int .i64 0] 33 : Obj)).heap[W3.heap.size + 1]? = some (.cells #[.int .i64 7, .int .i64 0, .string ⟨#[]⟩, .int .i64 0, .int .i64 0] 33 (0, 0) : Obj) by rw [hW4.out]; exact RR.out)
      obtain ⟨_, _, _, _, _, _⟩ := five_cells ER.out
      obtain ⟨_, _, _, _, _, _⟩ := five_cells RP.out
      obtain ⟨_, _, _, _, _⟩ := four_cells RX.out
      obtain ⟨_, _, _, _, _, _⟩ := five_cells RQ.out
      obtain ⟨_, _, _, _, _, _⟩ := five_cells RR.out
      go_wp2_with fail
      rw [hW4.out]
      refine (iIsCore_c p _ _ HP.out.wf ⟨OP.out, HP.out.2.2.wf⟩).mono ?_; rintro e W5 ⟨rfl, b⟩
      have RP := hide (show W5.heap[W1.heap.size]? = some (.cells #[.string p.kind, .bool p.on, .bool p.broken, .slice A p.cells.length c, .int .i64 p.count] 31 (0, 0) : Obj) from row_on b RP.out)
      have RX := hide (show W5.heap[W1.heap.size + 1]? = some (.cells #[.string x.method, .string x.key, .int .i64 x.value, .string x.text] 37 (0, 0) : Obj) from row_on b RX.out)
      have RQ := hide (show W5.heap[W3.heap.size]? = some (.cells #[.string p.kind, .bool p.on, .bool p.broken, .slice A5 (p.cells).length c5, .int .i64 p.count] 31 (0, 0) : Obj) from row_on b RQ.out)
      have RR := hide (show W5.heap[W3.heap.size + 1]? = some (.cells #[.int .i64 7, .int .i64 0, .string ⟨#[]⟩, .int .i64 0, .int .i64 0] 33 (0, 0) : Obj) from row_on b RR.out)
      have OP := hide (show RdL W5 2 cellEn (.slice A p.cells.length c) p.cells from RdL.below OP.out b (Nat.le_refl _))
      have OQ := hide (show RdL W5 2 cellEn (.slice A5 (p.cells).length c5) p.cells from RdL.below OQ.out b (Nat.le_refl _))
      have BW := below_then BW b
      rw [hcp.out]
      obtain ⟨_, _, _, _, _, _⟩ := five_cells RP.out
      obtain ⟨_, _, _, _, _⟩ := four_cells RX.out
      obtain ⟨_, _, _, _, _, _⟩ := five_cells RQ.out
      obtain ⟨_, _, _, _, _, _⟩ := five_cells RR.out
      go_wp2_with fail
      refine (iSameCore_c p p _ _ _ OP.out OQ.out).mono ?_; rintro e W6 ⟨rfl, b⟩
      have RP := hide (show W6.heap[W1.heap.size]? = some (.cells #[.string p.kind, .bool p.on, .bool p.broken, .slice A p.cells.length c, .int .i64 p.count] 31 (0, 0) : Obj) from row_on b RP.out)
      have RX := hide (show W6.heap[W1.heap.size + 1]? = some (.cells #[.string x.method, .string x.key, .int .i64 x.value, .string x.text] 37 (0, 0) : Obj) from row_on b RX.out)
      have RQ := hide (show W6.heap[W3.heap.size]? = some (.cells #[.string p.kind, .bool p.on, .bool p.broken, .slice A5 (p.cells).length c5, .int .i64 p.count] 31 (0, 0) : Obj) from row_on b RQ.out)
      have RR := hide (show W6.heap[W3.heap.size + 1]? = some (.cells #[.int .i64 7, .int .i64 0, .string ⟨#[]⟩, .int .i64 0, .int .i64 0] 33 (0, 0) : Obj) from row_on b RR.out)
      have OP := hide (show RdL W6 2 cellEn (.slice A p.cells.length c) p.cells from RdL.below OP.out b (Nat.le_refl _))
      have OQ := hide (show RdL W6 2 cellEn (.slice A5 (p.cells).length c5) p.cells from RdL.below OQ.out b (Nat.le_refl _))
      have BW := below_then BW b
      rw [sameCore_refl]
      obtain ⟨_, _, _, _, _, _⟩ := five_cells RP.out
      obtain ⟨_, _, _, _, _⟩ := four_cells RX.out
      obtain ⟨_, _, _, _, _, _⟩ := five_cells RQ.out
      obtain ⟨_, _, _, _, _, _⟩ := five_cells RR.out
      go_wp2
      go_ret
      first | exact ⟨rfl, BW⟩ | exact ⟨rfl, below_drewN BW _⟩
    rcases hcx : Pu.callB x with _ | _
    · replace hcp := hide hcp
      replace hcx := hide hcx
      have OP := hide o1
      clear o1
      obtain ⟨W2, hW2⟩ : ∃ W, Hid ((W1.alloc (.cells #[.string p.kind, .bool p.on, .bool p.broken, .slice A p.cells.length c, .int .i64 p.count] 31 : Obj)).alloc (.cells #[.string x.method, .string x.key, .int .i64 x.value, .string x.text] 37 : Obj) = W) := ⟨_, rfl⟩
      have b : Below W1.heap.size W1 W2 := by rw [← hW2.out]; exact below_alloc (below_alloc (Below.refl _ _) _) _
      have OP := hide (show RdL W2 2 cellEn (.slice A p.cells.length c) p.cells from RdL.below OP.out b (Nat.le_refl _))
      have BW := below_then BW b
      have RP := hide (show W2.heap[W1.heap.size]? = some (.cells #[.string p.kind, .bool p.on, .bool p.broken, .slice A p.cells.length c, .int .i64 p.count] 31 (0, 0) : Obj) by rw [← hW2.out]; exact heap_old (by simp) (heap_new rfl))
      have RX := hide (show W2.heap[W1.heap.size + 1]? = some (.cells #[.string x.method, .string x.key, .int .i64 x.value, .string x.text] 37 (0, 0) : Obj) by rw [← hW2.out]; exact heap_new (by simp))
      have EP := hide (show ((W1.alloc (.cells #[.string p.kind, .bool p.on, .bool p.broken, .slice A p.cells.length c, .int .i64 p.count] 31 : Obj)).alloc (.cells #[.string x.method, .string x.key, .int .i64 x.value, .string x.text] 37 : Obj)).heap[W1.heap.size]? = some (.cells #[.string p.kind, .bool p.on, .bool p.broken, .slice A p.cells.length c, .int .i64 p.count] 31 (0, 0) : Obj) by rw [hW2.out]; exact RP.out)
      obtain ⟨_, _, _, _, _, _⟩ := five_cells EP.out
      have EX := hide (show ((W1.alloc (.cells #[.string p.kind, .bool p.on, .bool p.broken, .slice A p.cells.length c, .int .i64 p.count] 31 : Obj)).alloc (.cells #[.string x.method, .string x.key, .int .i64 x.value, .string x.text] 37 : Obj)).heap[W1.heap.size + 1]? = some (.cells #[.string x.method, .string x.key, .int .i64 x.value, .string x.text] 37 (0, 0) : Obj) by rw [hW2.out]; exact RX.out)
      obtain ⟨_, _, _, _, _⟩ := four_cells EX.out
      have HR := hide (show Pu.callF p x = (⟨p.kind, p.on, p.broken, p.cells, p.count⟩, ⟨7, 0, ⟨#[]⟩, 0, 0⟩) from Pu.callF_bad (by rw [hcp.out, hcx.out]; rfl))
      obtain ⟨_, _, _, _, _, _⟩ := five_cells RP.out
      obtain ⟨_, _, _, _, _⟩ := four_cells RX.out
      go_wp2_with fail
      rw [hW2.out]
      refine (iCallCore_x p x _ _ p.kind ⟨#[]⟩ p.on p.broken p.cells p.count 7 0 0 0 (HM.out.below BW hlM) (HT.out.below BW hlT) (HE.out.below BW hlE) HP.out.wf HX.out.wf ⟨OP.out, HP.out.2.2.wf⟩ (by have := HP.out.2.2.1; omega) HX.out.text HR).mono ?_; rintro e W3 ⟨A5, c5, rfl, o5, b⟩
      have RP := hide (show W3.heap[W1.heap.size]? = some (.cells #[.string p.kind, .bool p.on, .bool p.broken, .slice A p.cells.length c, .int .i64 p.count] 31 (0, 0) : Obj) from row_on b RP.out)
      have RX := hide (show W3.heap[W1.heap.size + 1]? = some (.cells #[.string x.method, .string x.key, .int .i64 x.value, .string x.text] 37 (0, 0) : Obj) from row_on b RX.out)
      have OP := hide (show RdL W3 2 cellEn (.slice A p.cells.length c) p.cells from RdL.below OP.out b (Nat.le_refl _))
      have BW := below_then BW b
      have OQ := hide (show RdL W3 2 cellEn (.slice A5 (p.cells).length c5) (p.cells) from o5.rd (fun _ => rfl))
      clear o5
      obtain ⟨W4, hW4⟩ : ∃ W, Hid ((W3.alloc (.cells #[.string p.kind, .bool p.on, .bool p.broken, .slice A5 (p.cells).length c5, .int .i64 p.count] 31 : Obj)).alloc (.cells #[.int .i64 7, .int .i64 0, .string ⟨#[]⟩, .int .i64 0, .int .i64 0] 33 : Obj) = W) := ⟨_, rfl⟩
      have b : Below W3.heap.size W3 W4 := by rw [← hW4.out]; exact below_alloc (below_alloc (Below.refl _ _) _) _
      have RP := hide (show W4.heap[W1.heap.size]? = some (.cells #[.string p.kind, .bool p.on, .bool p.broken, .slice A p.cells.length c, .int .i64 p.count] 31 (0, 0) : Obj) from row_on b RP.out)
      have RX := hide (show W4.heap[W1.heap.size + 1]? = some (.cells #[.string x.method, .string x.key, .int .i64 x.value, .string x.text] 37 (0, 0) : Obj) from row_on b RX.out)
      have OP := hide (show RdL W4 2 cellEn (.slice A p.cells.length c) p.cells from RdL.below OP.out b (Nat.le_refl _))
      have OQ := hide (show RdL W4 2 cellEn (.slice A5 (p.cells).length c5) p.cells from RdL.below OQ.out b (Nat.le_refl _))
      have BW := below_then BW b
      have RQ := hide (show W4.heap[W3.heap.size]? = some (.cells #[.string p.kind, .bool p.on, .bool p.broken, .slice A5 (p.cells).length c5, .int .i64 p.count] 31 (0, 0) : Obj) by rw [← hW4.out]; exact heap_old (by simp) (heap_new rfl))
      have RR := hide (show W4.heap[W3.heap.size + 1]? = some (.cells #[.int .i64 7, .int .i64 0, .string ⟨#[]⟩, .int .i64 0, .int .i64 0] 33 (0, 0) : Obj) by rw [← hW4.out]; exact heap_new (by simp))
      have EP := hide (show ((W3.alloc (.cells #[.string p.kind, .bool p.on, .bool p.broken, .slice A5 (p.cells).length c5, .int .i64 p.count] 31 : Obj)).alloc (.cells #[.int .i64 7, .int .i64 0, .string ⟨#[]⟩, .int .i64 0, .int .i64 0] 33 : Obj)).heap[W1.heap.size]? = some (.cells #[.string p.kind, .bool p.on, .bool p.broken, .slice A p.cells.length c, .int .i64 p.count] 31 (0, 0) : Obj) by rw [hW4.out]; exact RP.out)
      obtain ⟨_, _, _, _, _, _⟩ := five_cells EP.out
      have EX := hide (show ((W3.alloc (.cells #[.string p.kind, .bool p.on, .bool p.broken, .slice A5 (p.cells).length c5, .int .i64 p.count] 31 : Obj)).alloc (.cells #[.int .i64 7, .int .i64 0, .string ⟨#[]⟩, .int .i64 0, .int .i64 0] 33 : Obj)).heap[W1.heap.size + 1]? = some (.cells #[.string x.method, .string x.key, .int .i64 x.value, .string x.text] 37 (0, 0) : Obj) by rw [hW4.out]; exact RX.out)
      obtain ⟨_, _, _, _, _⟩ := four_cells EX.out
      have EQ := hide (show ((W3.alloc (.cells #[.string p.kind, .bool p.on, .bool p.broken, .slice A5 (p.cells).length c5, .int .i64 p.count] 31 : Obj)).alloc (.cells #[.int .i64 7, .int .i64 0, .string ⟨#[]⟩, .int .i64 0, .int .i64 0] 33 : Obj)).heap[W3.heap.size]? = some (.cells #[.string p.kind, .bool p.on, .bool p.broken, .slice A5 (p.cells).length c5, .int .i64 p.count] 31 (0, 0) : Obj) by rw [hW4.out]; exact RQ.out)
      obtain ⟨_, _, _, _, _, _⟩ := five_cells EQ.out
      have ER := hide (show ((W3.alloc (.cells #[.string p.kind, .bool p.on, .bool p.broken, .slice A5 (p.cells).length c5, .int .i64 p.count] 31 : Obj)).alloc (.cells #[.int .i64 7, .int .i64 0, .string ⟨#[]⟩, .int .i64 0, .int .i64 0] 33 : Obj)).heap[W3.heap.size + 1]? = some (.cells #[.int .i64 7, .int .i64 0, .string ⟨#[]⟩, .int .i64 0, .int .i64 0] 33 (0, 0) : Obj) by rw [hW4.out]; exact RR.out)
      obtain ⟨_, _, _, _, _, _⟩ := five_cells ER.out
      obtain ⟨_, _, _, _, _, _⟩ := five_cells RP.out
      obtain ⟨_, _, _, _, _⟩ := four_cells RX.out
      obtain ⟨_, _, _, _, _, _⟩ := five_cells RQ.out
      obtain ⟨_, _, _, _, _, _⟩ := five_cells RR.out
      go_wp2_with fail
      rw [hW4.out]
      refine (iIsCore_c p _ _ HP.out.wf ⟨OP.out, HP.out.2.2.wf⟩).mono ?_; rintro e W5 ⟨rfl, b⟩
      have RP := hide (show W5.heap[W1.heap.size]? = some (.cells #[.string p.kind, .bool p.on, .bool p.broken, .slice A p.cells.length c, .int .i64 p.count] 31 (0, 0) : Obj) from row_on b RP.out)
      have RX := hide (show W5.heap[W1.heap.size + 1]? = some (.cells #[.string x.method, .string x.key, .int .i64 x.value, .string x.text] 37 (0, 0) : Obj) from row_on b RX.out)
      have RQ := hide (show W5.heap[W3.heap.size]? = some (.cells #[.string p.kind, .bool p.on, .bool p.broken, .slice A5 (p.cells).length c5, .int .i64 p.count] 31 (0, 0) : Obj) from row_on b RQ.out)
      have RR := hide (show W5.heap[W3.heap.size + 1]? = some (.cells #[.int .i64 7, .int .i64 0, .string ⟨#[]⟩, .int .i64 0, .int .i64 0] 33 (0, 0) : Obj) from row_on b RR.out)
      have OP := hide (show RdL W5 2 cellEn (.slice A p.cells.length c) p.cells from RdL.below OP.out b (Nat.le_refl _))
      have OQ := hide (show RdL W5 2 cellEn (.slice A5 (p.cells).length c5) p.cells from RdL.below OQ.out b (Nat.le_refl _))
      have BW := below_then BW b
      rw [hcp.out]
      obtain ⟨_, _, _, _, _, _⟩ := five_cells RP.out
      obtain ⟨_, _, _, _, _⟩ := four_cells RX.out
      obtain ⟨_, _, _, _, _, _⟩ := five_cells RQ.out
      obtain ⟨_, _, _, _, _, _⟩ := five_cells RR.out
      go_wp2_with fail
      refine (iIsCall_c x _ HX.out.wf).mono ?_; rintro e W6 ⟨rfl, b⟩
      have RP := hide (show W6.heap[W1.heap.size]? = some (.cells #[.string p.kind, .bool p.on, .bool p.broken, .slice A p.cells.length c, .int .i64 p.count] 31 (0, 0) : Obj) from row_on b RP.out)
      have RX := hide (show W6.heap[W1.heap.size + 1]? = some (.cells #[.string x.method, .string x.key, .int .i64 x.value, .string x.text] 37 (0, 0) : Obj) from row_on b RX.out)
      have RQ := hide (show W6.heap[W3.heap.size]? = some (.cells #[.string p.kind, .bool p.on, .bool p.broken, .slice A5 (p.cells).length c5, .int .i64 p.count] 31 (0, 0) : Obj) from row_on b RQ.out)
      have RR := hide (show W6.heap[W3.heap.size + 1]? = some (.cells #[.int .i64 7, .int .i64 0, .string ⟨#[]⟩, .int .i64 0, .int .i64 0] 33 (0, 0) : Obj) from row_on b RR.out)
      have OP := hide (show RdL W6 2 cellEn (.slice A p.cells.length c) p.cells from RdL.below OP.out b (Nat.le_refl _))
      have OQ := hide (show RdL W6 2 cellEn (.slice A5 (p.cells).length c5) p.cells from RdL.below OQ.out b (Nat.le_refl _))
      have BW := below_then BW b
      rw [hcx.out]
      obtain ⟨_, _, _, _, _, _⟩ := five_cells RP.out
      obtain ⟨_, _, _, _, _⟩ := four_cells RX.out
      obtain ⟨_, _, _, _, _, _⟩ := five_cells RQ.out
      obtain ⟨_, _, _, _, _, _⟩ := five_cells RR.out
      go_wp2_with fail
      refine (iSameCore_c p p _ _ _ OP.out OQ.out).mono ?_; rintro e W7 ⟨rfl, b⟩
      have RP := hide (show W7.heap[W1.heap.size]? = some (.cells #[.string p.kind, .bool p.on, .bool p.broken, .slice A p.cells.length c, .int .i64 p.count] 31 (0, 0) : Obj) from row_on b RP.out)
      have RX := hide (show W7.heap[W1.heap.size + 1]? = some (.cells #[.string x.method, .string x.key, .int .i64 x.value, .string x.text] 37 (0, 0) : Obj) from row_on b RX.out)
      have RQ := hide (show W7.heap[W3.heap.size]? = some (.cells #[.string p.kind, .bool p.on, .bool p.broken, .slice A5 (p.cells).length c5, .int .i64 p.count] 31 (0, 0) : Obj) from row_on b RQ.out)
      have RR := hide (show W7.heap[W3.heap.size + 1]? = some (.cells #[.int .i64 7, .int .i64 0, .string ⟨#[]⟩, .int .i64 0, .int .i64 0] 33 (0, 0) : Obj) from row_on b RR.out)
      have OP := hide (show RdL W7 2 cellEn (.slice A p.cells.length c) p.cells from RdL.below OP.out b (Nat.le_refl _))
      have OQ := hide (show RdL W7 2 cellEn (.slice A5 (p.cells).length c5) p.cells from RdL.below OQ.out b (Nat.le_refl _))
      have BW := below_then BW b
      rw [sameCore_refl]
      obtain ⟨_, _, _, _, _, _⟩ := five_cells RP.out
      obtain ⟨_, _, _, _, _⟩ := four_cells RX.out
      obtain ⟨_, _, _, _, _, _⟩ := five_cells RQ.out
      obtain ⟨_, _, _, _, _, _⟩ := five_cells RR.out
      go_wp2
      go_ret
      first | exact ⟨rfl, BW⟩ | exact ⟨rfl, below_drewN BW _⟩
    rcases hof : Pu.offersB (Pu.faceK p) (Pu.wantF x.method.toList) with _ | _
    · replace hcp := hide hcp
      replace hcx := hide hcx
      have OP := hide o1
      clear o1
      obtain ⟨W2, hW2⟩ : ∃ W, Hid ((W1.alloc (.cells #[.string p.kind, .bool p.on, .bool p.broken, .slice A p.cells.length c, .int .i64 p.count] 31 : Obj)).alloc (.cells #[.string x.method, .string x.key, .int .i64 x.value, .string x.text] 37 : Obj) = W) := ⟨_, rfl⟩
      have b : Below W1.heap.size W1 W2 := by rw [← hW2.out]; exact below_alloc (below_alloc (Below.refl _ _) _) _
      have OP := hide (show RdL W2 2 cellEn (.slice A p.cells.length c) p.cells from RdL.below OP.out b (Nat.le_refl _))
      have BW := below_then BW b
      have RP := hide (show W2.heap[W1.heap.size]? = some (.cells #[.string p.kind, .bool p.on, .bool p.broken, .slice A p.cells.length c, .int .i64 p.count] 31 (0, 0) : Obj) by rw [← hW2.out]; exact heap_old (by simp) (heap_new rfl))
      have RX := hide (show W2.heap[W1.heap.size + 1]? = some (.cells #[.string x.method, .string x.key, .int .i64 x.value, .string x.text] 37 (0, 0) : Obj) by rw [← hW2.out]; exact heap_new (by simp))
      have EP := hide (show ((W1.alloc (.cells #[.string p.kind, .bool p.on, .bool p.broken, .slice A p.cells.length c, .int .i64 p.count] 31 : Obj)).alloc (.cells #[.string x.method, .string x.key, .int .i64 x.value, .string x.text] 37 : Obj)).heap[W1.heap.size]? = some (.cells #[.string p.kind, .bool p.on, .bool p.broken, .slice A p.cells.length c, .int .i64 p.count] 31 (0, 0) : Obj) by rw [hW2.out]; exact RP.out)
      obtain ⟨_, _, _, _, _, _⟩ := five_cells EP.out
      have EX := hide (show ((W1.alloc (.cells #[.string p.kind, .bool p.on, .bool p.broken, .slice A p.cells.length c, .int .i64 p.count] 31 : Obj)).alloc (.cells #[.string x.method, .string x.key, .int .i64 x.value, .string x.text] 37 : Obj)).heap[W1.heap.size + 1]? = some (.cells #[.string x.method, .string x.key, .int .i64 x.value, .string x.text] 37 (0, 0) : Obj) by rw [hW2.out]; exact RX.out)
      obtain ⟨_, _, _, _, _⟩ := four_cells EX.out
      have HR := hide (show Pu.callF p x = (⟨p.kind, p.on, p.broken, p.cells, p.count⟩, ⟨1, 0, ⟨#[]⟩, (Pu.wantF x.method.toList), (Pu.faceK p)⟩) from Pu.callF_no hcp.out hcx.out hof)
      obtain ⟨_, _, _, _, _, _⟩ := five_cells RP.out
      obtain ⟨_, _, _, _, _⟩ := four_cells RX.out
      go_wp2_with fail
      rw [hW2.out]
      refine (iCallCore_x p x _ _ p.kind ⟨#[]⟩ p.on p.broken p.cells p.count 1 0 (Pu.wantF x.method.toList) (Pu.faceK p) (HM.out.below BW hlM) (HT.out.below BW hlT) (HE.out.below BW hlE) HP.out.wf HX.out.wf ⟨OP.out, HP.out.2.2.wf⟩ (by have := HP.out.2.2.1; omega) HX.out.text HR).mono ?_; rintro e W3 ⟨A5, c5, rfl, o5, b⟩
      have RP := hide (show W3.heap[W1.heap.size]? = some (.cells #[.string p.kind, .bool p.on, .bool p.broken, .slice A p.cells.length c, .int .i64 p.count] 31 (0, 0) : Obj) from row_on b RP.out)
      have RX := hide (show W3.heap[W1.heap.size + 1]? = some (.cells #[.string x.method, .string x.key, .int .i64 x.value, .string x.text] 37 (0, 0) : Obj) from row_on b RX.out)
      have OP := hide (show RdL W3 2 cellEn (.slice A p.cells.length c) p.cells from RdL.below OP.out b (Nat.le_refl _))
      have BW := below_then BW b
      have OQ := hide (show RdL W3 2 cellEn (.slice A5 (p.cells).length c5) (p.cells) from o5.rd (fun _ => rfl))
      clear o5
      obtain ⟨W4, hW4⟩ : ∃ W, Hid ((W3.alloc (.cells #[.string p.kind, .bool p.on, .bool p.broken, .slice A5 (p.cells).length c5, .int .i64 p.count] 31 : Obj)).alloc (.cells #[.int .i64 1, .int .i64 0, .string ⟨#[]⟩, .int .i64 (Pu.wantF x.method.toList), .int .i64 (Pu.faceK p)] 33 : Obj) = W) := ⟨_, rfl⟩
      have b : Below W3.heap.size W3 W4 := by rw [← hW4.out]; exact below_alloc (below_alloc (Below.refl _ _) _) _
      have RP := hide (show W4.heap[W1.heap.size]? = some (.cells #[.string p.kind, .bool p.on, .bool p.broken, .slice A p.cells.length c, .int .i64 p.count] 31 (0, 0) : Obj) from row_on b RP.out)
      have RX := hide (show W4.heap[W1.heap.size + 1]? = some (.cells #[.string x.method, .string x.key, .int .i64 x.value, .string x.text] 37 (0, 0) : Obj) from row_on b RX.out)
      have OP := hide (show RdL W4 2 cellEn (.slice A p.cells.length c) p.cells from RdL.below OP.out b (Nat.le_refl _))
      have OQ := hide (show RdL W4 2 cellEn (.slice A5 (p.cells).length c5) p.cells from RdL.below OQ.out b (Nat.le_refl _))
      have BW := below_then BW b
      have RQ := hide (show W4.heap[W3.heap.size]? = some (.cells #[.string p.kind, .bool p.on, .bool p.broken, .slice A5 (p.cells).length c5, .int .i64 p.count] 31 (0, 0) : Obj) by rw [← hW4.out]; exact heap_old (by simp) (heap_new rfl))
      have RR := hide (show W4.heap[W3.heap.size + 1]? = some (.cells #[.int .i64 1, .int .i64 0, .string ⟨#[]⟩, .int .i64 (Pu.wantF x.method.toList), .int .i64 (Pu.faceK p)] 33 (0, 0) : Obj) by rw [← hW4.out]; exact heap_new (by simp))
      have EP := hide (show ((W3.alloc (.cells #[.string p.kind, .bool p.on, .bool p.broken, .slice A5 (p.cells).length c5, .int .i64 p.count] 31 : Obj)).alloc (.cells #[.int .i64 1, .int .i64 0, .string ⟨#[]⟩, .int .i64 (Pu.wantF x.method.toList), .int .i64 (Pu.faceK p)] 33 : Obj)).heap[W1.heap.size]? = some (.cells #[.string p.kind, .bool p.on, .bool p.broken, .slice A p.cells.length c, .int .i64 p.count] 31 (0, 0) : Obj) by rw [hW4.out]; exact RP.out)
      obtain ⟨_, _, _, _, _, _⟩ := five_cells EP.out
      have EX := hide (show ((W3.alloc (.cells #[.string p.kind, .bool p.on, .bool p.broken, .slice A5 (p.cells).length c5, .int .i64 p.count] 31 : Obj)).alloc (.cells #[.int .i64 1, .int .i64 0, .string ⟨#[]⟩, .int .i64 (Pu.wantF x.method.toList), .int .i64 (Pu.faceK p)] 33 : Obj)).heap[W1.heap.size + 1]? = some (.cells #[.string x.method, .string x.key, .int .i64 x.value, .string x.text] 37 (0, 0) : Obj) by rw [hW4.out]; exact RX.out)
      obtain ⟨_, _, _, _, _⟩ := four_cells EX.out
      have EQ := hide (show ((W3.alloc (.cells #[.string p.kind, .bool p.on, .bool p.broken, .slice A5 (p.cells).length c5, .int .i64 p.count] 31 : Obj)).alloc (.cells #[.int .i64 1, .int .i64 0, .string ⟨#[]⟩, .int .i64 (Pu.wantF x.method.toList), .int .i64 (Pu.faceK p)] 33 : Obj)).heap[W3.heap.size]? = some (.cells #[.string p.kind, .bool p.on, .bool p.broken, .slice A5 (p.cells).length c5, .int .i64 p.count] 31 (0, 0) : Obj) by rw [hW4.out]; exact RQ.out)
      obtain ⟨_, _, _, _, _, _⟩ := five_cells EQ.out
      have ER := hide (show ((W3.alloc (.cells #[.string p.kind, .bool p.on, .bool p.broken, .slice A5 (p.cells).length c5, .int .i64 p.count] 31 : Obj)).alloc (.cells #[.int .i64 1, .int .i64 0, .string ⟨#[]⟩, .int .i64 (Pu.wantF x.method.toList), .int .i64 (Pu.faceK p)] 33 : Obj)).heap[W3.heap.size + 1]? = some (.cells #[.int .i64 1, .int .i64 0, .string ⟨#[]⟩, .int .i64 (Pu.wantF x.method.toList), .int .i64 (Pu.faceK p)] 33 (0, 0) : Obj) by rw [hW4.out]; exact RR.out)
      obtain ⟨_, _, _, _, _, _⟩ := five_cells ER.out
      obtain ⟨_, _, _, _, _, _⟩ := five_cells RP.out
      obtain ⟨_, _, _, _, _⟩ := four_cells RX.out
      obtain ⟨_, _, _, _, _, _⟩ := five_cells RQ.out
      obtain ⟨_, _, _, _, _, _⟩ := five_cells RR.out
      go_wp2_with fail
      rw [hW4.out]
      refine (iIsCore_c p _ _ HP.out.wf ⟨OP.out, HP.out.2.2.wf⟩).mono ?_; rintro e W5 ⟨rfl, b⟩
      have RP := hide (show W5.heap[W1.heap.size]? = some (.cells #[.string p.kind, .bool p.on, .bool p.broken, .slice A p.cells.length c, .int .i64 p.count] 31 (0, 0) : Obj) from row_on b RP.out)
      have RX := hide (show W5.heap[W1.heap.size + 1]? = some (.cells #[.string x.method, .string x.key, .int .i64 x.value, .string x.text] 37 (0, 0) : Obj) from row_on b RX.out)
      have RQ := hide (show W5.heap[W3.heap.size]? = some (.cells #[.string p.kind, .bool p.on, .bool p.broken, .slice A5 (p.cells).length c5, .int .i64 p.count] 31 (0, 0) : Obj) from row_on b RQ.out)
      have RR := hide (show W5.heap[W3.heap.size + 1]? = some (.cells #[.int .i64 1, .int .i64 0, .string ⟨#[]⟩, .int .i64 (Pu.wantF x.method.toList), .int .i64 (Pu.faceK p)] 33 (0, 0) : Obj) from row_on b RR.out)
      have OP := hide (show RdL W5 2 cellEn (.slice A p.cells.length c) p.cells from RdL.below OP.out b (Nat.le_refl _))
      have OQ := hide (show RdL W5 2 cellEn (.slice A5 (p.cells).length c5) p.cells from RdL.below OQ.out b (Nat.le_refl _))
      have BW := below_then BW b
      rw [hcp.out]
      obtain ⟨_, _, _, _, _, _⟩ := five_cells RP.out
      obtain ⟨_, _, _, _, _⟩ := four_cells RX.out
      obtain ⟨_, _, _, _, _, _⟩ := five_cells RQ.out
      obtain ⟨_, _, _, _, _, _⟩ := five_cells RR.out
      go_wp2_with fail
      refine (iIsCall_c x _ HX.out.wf).mono ?_; rintro e W6 ⟨rfl, b⟩
      have RP := hide (show W6.heap[W1.heap.size]? = some (.cells #[.string p.kind, .bool p.on, .bool p.broken, .slice A p.cells.length c, .int .i64 p.count] 31 (0, 0) : Obj) from row_on b RP.out)
      have RX := hide (show W6.heap[W1.heap.size + 1]? = some (.cells #[.string x.method, .string x.key, .int .i64 x.value, .string x.text] 37 (0, 0) : Obj) from row_on b RX.out)
      have RQ := hide (show W6.heap[W3.heap.size]? = some (.cells #[.string p.kind, .bool p.on, .bool p.broken, .slice A5 (p.cells).length c5, .int .i64 p.count] 31 (0, 0) : Obj) from row_on b RQ.out)
      have RR := hide (show W6.heap[W3.heap.size + 1]? = some (.cells #[.int .i64 1, .int .i64 0, .string ⟨#[]⟩, .int .i64 (Pu.wantF x.method.toList), .int .i64 (Pu.faceK p)] 33 (0, 0) : Obj) from row_on b RR.out)
      have OP := hide (show RdL W6 2 cellEn (.slice A p.cells.length c) p.cells from RdL.below OP.out b (Nat.le_refl _))
      have OQ := hide (show RdL W6 2 cellEn (.slice A5 (p.cells).length c5) p.cells from RdL.below OQ.out b (Nat.le_refl _))
      have BW := below_then BW b
      rw [hcx.out]
      obtain ⟨_, _, _, _, _, _⟩ := five_cells RP.out
      obtain ⟨_, _, _, _, _⟩ := four_cells RX.out
      obtain ⟨_, _, _, _, _, _⟩ := five_cells RQ.out
      obtain ⟨_, _, _, _, _, _⟩ := five_cells RR.out
      go_wp2_with fail
      refine (iKindFace_c p.kind _).mono ?_; rintro e w' ⟨rfl, rfl⟩
      rw [show Pu.kindF p.kind.toList = Pu.faceK p from rfl]
      obtain ⟨_, _, _, _, _, _⟩ := five_cells RP.out
      obtain ⟨_, _, _, _, _⟩ := four_cells RX.out
      obtain ⟨_, _, _, _, _, _⟩ := five_cells RQ.out
      obtain ⟨_, _, _, _, _, _⟩ := five_cells RR.out
      go_wp2_with fail
      refine (iWantOf_c x.method _).mono ?_; rintro e W7 ⟨rfl, b⟩
      have RP := hide (show W7.heap[W1.heap.size]? = some (.cells #[.string p.kind, .bool p.on, .bool p.broken, .slice A p.cells.length c, .int .i64 p.count] 31 (0, 0) : Obj) from row_on b RP.out)
      have RX := hide (show W7.heap[W1.heap.size + 1]? = some (.cells #[.string x.method, .string x.key, .int .i64 x.value, .string x.text] 37 (0, 0) : Obj) from row_on b RX.out)
      have RQ := hide (show W7.heap[W3.heap.size]? = some (.cells #[.string p.kind, .bool p.on, .bool p.broken, .slice A5 (p.cells).length c5, .int .i64 p.count] 31 (0, 0) : Obj) from row_on b RQ.out)
      have RR := hide (show W7.heap[W3.heap.size + 1]? = some (.cells #[.int .i64 1, .int .i64 0, .string ⟨#[]⟩, .int .i64 (Pu.wantF x.method.toList), .int .i64 (Pu.faceK p)] 33 (0, 0) : Obj) from row_on b RR.out)
      have OP := hide (show RdL W7 2 cellEn (.slice A p.cells.length c) p.cells from RdL.below OP.out b (Nat.le_refl _))
      have OQ := hide (show RdL W7 2 cellEn (.slice A5 (p.cells).length c5) p.cells from RdL.below OQ.out b (Nat.le_refl _))
      have BW := below_then BW b
      obtain ⟨f, hff⟩ : ∃ f, Hid (Pu.faceK p = f) := ⟨_, rfl⟩
      obtain ⟨wt, hwt⟩ : ∃ wt, Hid (Pu.wantF x.method.toList = wt) := ⟨_, rfl⟩
      try rw [hff.out, hwt.out] at RR
      rw [hff.out, hwt.out] at hof
      try rw [hff.out]
      rw [hwt.out]
      replace hof := hide hof
      obtain ⟨_, _, _, _, _, _⟩ := five_cells RP.out
      obtain ⟨_, _, _, _, _⟩ := four_cells RX.out
      obtain ⟨_, _, _, _, _, _⟩ := five_cells RQ.out
      obtain ⟨_, _, _, _, _, _⟩ := five_cells RR.out
      go_wp2_with fail
      go_quiet ((go_at_call 46; exact quiet_same (hof.out ▸ iOffers_c f wt _)))
      have hdr : ∀ n : Nat, Below W7.heap.size W7 (W7.drewN n) := fun n => below_drewN (Below.refl _ _) n
      have hgr := guard_reply
      have heq := fun w => eql_reply 1 0 wt f ⟨#[]⟩ ⟨#[]⟩ rfl w
      obtain ⟨_, _, _, _, _, _⟩ := five_cells RP.out
      obtain ⟨_, _, _, _, _⟩ := four_cells RX.out
      obtain ⟨_, _, _, _, _, _⟩ := five_cells RQ.out
      obtain ⟨_, _, _, _, _, _⟩ := five_cells RR.out
      go_wp2_with fail
      refine (iSameCore_c p p _ _ _ (RdL.below OP.out (hdr _) (Nat.le_refl _)) (RdL.below OQ.out (hdr _) (Nat.le_refl _))).mono ?_; rintro e W9 ⟨rfl, b⟩
      rw [sameCore_refl]
      have b9 := (hdr _).trans (b.mono (hdr _).size)
      have RP := hide (show W9.heap[W1.heap.size]? = some (.cells #[.string p.kind, .bool p.on, .bool p.broken, .slice A p.cells.length c, .int .i64 p.count] 31 (0, 0) : Obj) from row_on b9 RP.out)
      have RX := hide (show W9.heap[W1.heap.size + 1]? = some (.cells #[.string x.method, .string x.key, .int .i64 x.value, .string x.text] 37 (0, 0) : Obj) from row_on b9 RX.out)
      have RQ := hide (show W9.heap[W3.heap.size]? = some (.cells #[.string p.kind, .bool p.on, .bool p.broken, .slice A5 (p.cells).length c5, .int .i64 p.count] 31 (0, 0) : Obj) from row_on b9 RQ.out)
      have RR := hide (show W9.heap[W3.heap.size + 1]? = some (.cells #[.int .i64 1, .int .i64 0, .string ⟨#[]⟩, .int .i64 wt, .int .i64 f] 33 (0, 0) : Obj) from row_on b9 RR.out)
      have OP := hide (show RdL W9 2 cellEn (.slice A p.cells.length c) p.cells from RdL.below OP.out b9 (Nat.le_refl _))
      have OQ := hide (show RdL W9 2 cellEn (.slice A5 (p.cells).length c5) p.cells from RdL.below OQ.out b9 (Nat.le_refl _))
      have BW := below_then BW b9
      obtain ⟨_, _, _, _, _, _⟩ := five_cells RP.out
      obtain ⟨_, _, _, _, _⟩ := four_cells RX.out
      obtain ⟨_, _, _, _, _, _⟩ := five_cells RQ.out
      obtain ⟨_, _, _, _, _, _⟩ := five_cells RR.out
      go_wp2
      go_ret
      first | exact ⟨rfl, BW⟩ | exact ⟨rfl, below_drewN BW _⟩
    · replace hcp := hide hcp
      replace hcx := hide hcx
      obtain ⟨⟨⟨k1, o1_, b1, l1, n1⟩, ⟨c1, v1, t1, wa1, h1⟩⟩, HR⟩ : ∃ R : Pu.CoreD × Pu.ReplyD, Hid (Pu.callF p x = R) := ⟨_, rfl⟩
      have hc : ¬ c1 = 1 ∧ ¬ c1 = 7 := by
        have h := Pu.doF_code p x
        rw [← Pu.callF_do hcp.out hcx.out hof, HR.out] at h
        exact h
      obtain ⟨hc1, hc7⟩ := hc
      have hb1 : (c1 == 1) = false := by simp [hc1]
      have hb7 : (c1 == 7) = false := by simp [hc7]
      have hn1 : (c1 != 1) = true := by simp [hc1]
      have OP := hide o1
      clear o1
      obtain ⟨W2, hW2⟩ : ∃ W, Hid ((W1.alloc (.cells #[.string p.kind, .bool p.on, .bool p.broken, .slice A p.cells.length c, .int .i64 p.count] 31 : Obj)).alloc (.cells #[.string x.method, .string x.key, .int .i64 x.value, .string x.text] 37 : Obj) = W) := ⟨_, rfl⟩
      have b : Below W1.heap.size W1 W2 := by rw [← hW2.out]; exact below_alloc (below_alloc (Below.refl _ _) _) _
      have OP := hide (show RdL W2 2 cellEn (.slice A p.cells.length c) p.cells from RdL.below OP.out b (Nat.le_refl _))
      have BW := below_then BW b
      have RP := hide (show W2.heap[W1.heap.size]? = some (.cells #[.string p.kind, .bool p.on, .bool p.broken, .slice A p.cells.length c, .int .i64 p.count] 31 (0, 0) : Obj) by rw [← hW2.out]; exact heap_old (by simp) (heap_new rfl))
      have RX := hide (show W2.heap[W1.heap.size + 1]? = some (.cells #[.string x.method, .string x.key, .int .i64 x.value, .string x.text] 37 (0, 0) : Obj) by rw [← hW2.out]; exact heap_new (by simp))
      have EP := hide (show ((W1.alloc (.cells #[.string p.kind, .bool p.on, .bool p.broken, .slice A p.cells.length c, .int .i64 p.count] 31 : Obj)).alloc (.cells #[.string x.method, .string x.key, .int .i64 x.value, .string x.text] 37 : Obj)).heap[W1.heap.size]? = some (.cells #[.string p.kind, .bool p.on, .bool p.broken, .slice A p.cells.length c, .int .i64 p.count] 31 (0, 0) : Obj) by rw [hW2.out]; exact RP.out)
      obtain ⟨_, _, _, _, _, _⟩ := five_cells EP.out
      have EX := hide (show ((W1.alloc (.cells #[.string p.kind, .bool p.on, .bool p.broken, .slice A p.cells.length c, .int .i64 p.count] 31 : Obj)).alloc (.cells #[.string x.method, .string x.key, .int .i64 x.value, .string x.text] 37 : Obj)).heap[W1.heap.size + 1]? = some (.cells #[.string x.method, .string x.key, .int .i64 x.value, .string x.text] 37 (0, 0) : Obj) by rw [hW2.out]; exact RX.out)
      obtain ⟨_, _, _, _, _⟩ := four_cells EX.out
      obtain ⟨_, _, _, _, _, _⟩ := five_cells RP.out
      obtain ⟨_, _, _, _, _⟩ := four_cells RX.out
      go_wp2_with fail
      rw [hW2.out]
      refine (iCallCore_x p x _ _ k1 t1 o1_ b1 l1 n1 c1 v1 wa1 h1 (HM.out.below BW hlM) (HT.out.below BW hlT) (HE.out.below BW hlE) HP.out.wf HX.out.wf ⟨OP.out, HP.out.2.2.wf⟩ (by have := HP.out.2.2.1; omega) HX.out.text HR).mono ?_; rintro e W3 ⟨A5, c5, rfl, o5, b⟩
      have RP := hide (show W3.heap[W1.heap.size]? = some (.cells #[.string p.kind, .bool p.on, .bool p.broken, .slice A p.cells.length c, .int .i64 p.count] 31 (0, 0) : Obj) from row_on b RP.out)
      have RX := hide (show W3.heap[W1.heap.size + 1]? = some (.cells #[.string x.method, .string x.key, .int .i64 x.value, .string x.text] 37 (0, 0) : Obj) from row_on b RX.out)
      have OP := hide (show RdL W3 2 cellEn (.slice A p.cells.length c) p.cells from RdL.below OP.out b (Nat.le_refl _))
      have BW := below_then BW b
      have OQ := hide (show RdL W3 2 cellEn (.slice A5 (l1).length c5) (l1) from o5.rd (fun _ => rfl))
      clear o5
      obtain ⟨W4, hW4⟩ : ∃ W, Hid ((W3.alloc (.cells #[.string k1, .bool o1_, .bool b1, .slice A5 (l1).length c5, .int .i64 n1] 31 : Obj)).alloc (.cells #[.int .i64 c1, .int .i64 v1, .string t1, .int .i64 wa1, .int .i64 h1] 33 : Obj) = W) := ⟨_, rfl⟩
      have b : Below W3.heap.size W3 W4 := by rw [← hW4.out]; exact below_alloc (below_alloc (Below.refl _ _) _) _
      have RP := hide (show W4.heap[W1.heap.size]? = some (.cells #[.string p.kind, .bool p.on, .bool p.broken, .slice A p.cells.length c, .int .i64 p.count] 31 (0, 0) : Obj) from row_on b RP.out)
      have RX := hide (show W4.heap[W1.heap.size + 1]? = some (.cells #[.string x.method, .string x.key, .int .i64 x.value, .string x.text] 37 (0, 0) : Obj) from row_on b RX.out)
      have OP := hide (show RdL W4 2 cellEn (.slice A p.cells.length c) p.cells from RdL.below OP.out b (Nat.le_refl _))
      have OQ := hide (show RdL W4 2 cellEn (.slice A5 (l1).length c5) l1 from RdL.below OQ.out b (Nat.le_refl _))
      have BW := below_then BW b
      have RQ := hide (show W4.heap[W3.heap.size]? = some (.cells #[.string k1, .bool o1_, .bool b1, .slice A5 (l1).length c5, .int .i64 n1] 31 (0, 0) : Obj) by rw [← hW4.out]; exact heap_old (by simp) (heap_new rfl))
      have RR := hide (show W4.heap[W3.heap.size + 1]? = some (.cells #[.int .i64 c1, .int .i64 v1, .string t1, .int .i64 wa1, .int .i64 h1] 33 (0, 0) : Obj) by rw [← hW4.out]; exact heap_new (by simp))
      have EP := hide (show ((W3.alloc (.cells #[.string k1, .bool o1_, .bool b1, .slice A5 (l1).length c5, .int .i64 n1] 31 : Obj)).alloc (.cells #[.int .i64 c1, .int .i64 v1, .string t1, .int .i64 wa1, .int .i64 h1] 33 : Obj)).heap[W1.heap.size]? = some (.cells #[.string p.kind, .bool p.on, .bool p.broken, .slice A p.cells.length c, .int .i64 p.count] 31 (0, 0) : Obj) by rw [hW4.out]; exact RP.out)
      obtain ⟨_, _, _, _, _, _⟩ := five_cells EP.out
      have EX := hide (show ((W3.alloc (.cells #[.string k1, .bool o1_, .bool b1, .slice A5 (l1).length c5, .int .i64 n1] 31 : Obj)).alloc (.cells #[.int .i64 c1, .int .i64 v1, .string t1, .int .i64 wa1, .int .i64 h1] 33 : Obj)).heap[W1.heap.size + 1]? = some (.cells #[.string x.method, .string x.key, .int .i64 x.value, .string x.text] 37 (0, 0) : Obj) by rw [hW4.out]; exact RX.out)
      obtain ⟨_, _, _, _, _⟩ := four_cells EX.out
      have EQ := hide (show ((W3.alloc (.cells #[.string k1, .bool o1_, .bool b1, .slice A5 (l1).length c5, .int .i64 n1] 31 : Obj)).alloc (.cells #[.int .i64 c1, .int .i64 v1, .string t1, .int .i64 wa1, .int .i64 h1] 33 : Obj)).heap[W3.heap.size]? = some (.cells #[.string k1, .bool o1_, .bool b1, .slice A5 (l1).length c5, .int .i64 n1] 31 (0, 0) : Obj) by rw [hW4.out]; exact RQ.out)
      obtain ⟨_, _, _, _, _, _⟩ := five_cells EQ.out
      have ER := hide (show ((W3.alloc (.cells #[.string k1, .bool o1_, .bool b1, .slice A5 (l1).length c5, .int .i64 n1] 31 : Obj)).alloc (.cells #[.int .i64 c1, .int .i64 v1, .string t1, .int .i64 wa1, .int .i64 h1] 33 : Obj)).heap[W3.heap.size + 1]? = some (.cells #[.int .i64 c1, .int .i64 v1, .string t1, .int .i64 wa1, .int .i64 h1] 33 (0, 0) : Obj) by rw [hW4.out]; exact RR.out)
      obtain ⟨_, _, _, _, _, _⟩ := five_cells ER.out
      obtain ⟨_, _, _, _, _, _⟩ := five_cells RP.out
      obtain ⟨_, _, _, _, _⟩ := four_cells RX.out
      obtain ⟨_, _, _, _, _, _⟩ := five_cells RQ.out
      obtain ⟨_, _, _, _, _, _⟩ := five_cells RR.out
      go_wp2_with fail
      rw [hW4.out]
      refine (iIsCore_c p _ _ HP.out.wf ⟨OP.out, HP.out.2.2.wf⟩).mono ?_; rintro e W5 ⟨rfl, b⟩
      have RP := hide (show W5.heap[W1.heap.size]? = some (.cells #[.string p.kind, .bool p.on, .bool p.broken, .slice A p.cells.length c, .int .i64 p.count] 31 (0, 0) : Obj) from row_on b RP.out)
      have RX := hide (show W5.heap[W1.heap.size + 1]? = some (.cells #[.string x.method, .string x.key, .int .i64 x.value, .string x.text] 37 (0, 0) : Obj) from row_on b RX.out)
      have RQ := hide (show W5.heap[W3.heap.size]? = some (.cells #[.string k1, .bool o1_, .bool b1, .slice A5 (l1).length c5, .int .i64 n1] 31 (0, 0) : Obj) from row_on b RQ.out)
      have RR := hide (show W5.heap[W3.heap.size + 1]? = some (.cells #[.int .i64 c1, .int .i64 v1, .string t1, .int .i64 wa1, .int .i64 h1] 33 (0, 0) : Obj) from row_on b RR.out)
      have OP := hide (show RdL W5 2 cellEn (.slice A p.cells.length c) p.cells from RdL.below OP.out b (Nat.le_refl _))
      have OQ := hide (show RdL W5 2 cellEn (.slice A5 (l1).length c5) l1 from RdL.below OQ.out b (Nat.le_refl _))
      have BW := below_then BW b
      rw [hcp.out]
      obtain ⟨_, _, _, _, _, _⟩ := five_cells RP.out
      obtain ⟨_, _, _, _, _⟩ := four_cells RX.out
      obtain ⟨_, _, _, _, _, _⟩ := five_cells RQ.out
      obtain ⟨_, _, _, _, _, _⟩ := five_cells RR.out
      go_wp2_with fail
      refine (iIsCall_c x _ HX.out.wf).mono ?_; rintro e W6 ⟨rfl, b⟩
      have RP := hide (show W6.heap[W1.heap.size]? = some (.cells #[.string p.kind, .bool p.on, .bool p.broken, .slice A p.cells.length c, .int .i64 p.count] 31 (0, 0) : Obj) from row_on b RP.out)
      have RX := hide (show W6.heap[W1.heap.size + 1]? = some (.cells #[.string x.method, .string x.key, .int .i64 x.value, .string x.text] 37 (0, 0) : Obj) from row_on b RX.out)
      have RQ := hide (show W6.heap[W3.heap.size]? = some (.cells #[.string k1, .bool o1_, .bool b1, .slice A5 (l1).length c5, .int .i64 n1] 31 (0, 0) : Obj) from row_on b RQ.out)
      have RR := hide (show W6.heap[W3.heap.size + 1]? = some (.cells #[.int .i64 c1, .int .i64 v1, .string t1, .int .i64 wa1, .int .i64 h1] 33 (0, 0) : Obj) from row_on b RR.out)
      have OP := hide (show RdL W6 2 cellEn (.slice A p.cells.length c) p.cells from RdL.below OP.out b (Nat.le_refl _))
      have OQ := hide (show RdL W6 2 cellEn (.slice A5 (l1).length c5) l1 from RdL.below OQ.out b (Nat.le_refl _))
      have BW := below_then BW b
      rw [hcx.out]
      obtain ⟨_, _, _, _, _, _⟩ := five_cells RP.out
      obtain ⟨_, _, _, _, _⟩ := four_cells RX.out
      obtain ⟨_, _, _, _, _, _⟩ := five_cells RQ.out
      obtain ⟨_, _, _, _, _, _⟩ := five_cells RR.out
      go_wp2_with fail
      refine (iKindFace_c p.kind _).mono ?_; rintro e w' ⟨rfl, rfl⟩
      rw [show Pu.kindF p.kind.toList = Pu.faceK p from rfl]
      obtain ⟨_, _, _, _, _, _⟩ := five_cells RP.out
      obtain ⟨_, _, _, _, _⟩ := four_cells RX.out
      obtain ⟨_, _, _, _, _, _⟩ := five_cells RQ.out
      obtain ⟨_, _, _, _, _, _⟩ := five_cells RR.out
      go_wp2_with fail
      refine (iWantOf_c x.method _).mono ?_; rintro e W7 ⟨rfl, b⟩
      have RP := hide (show W7.heap[W1.heap.size]? = some (.cells #[.string p.kind, .bool p.on, .bool p.broken, .slice A p.cells.length c, .int .i64 p.count] 31 (0, 0) : Obj) from row_on b RP.out)
      have RX := hide (show W7.heap[W1.heap.size + 1]? = some (.cells #[.string x.method, .string x.key, .int .i64 x.value, .string x.text] 37 (0, 0) : Obj) from row_on b RX.out)
      have RQ := hide (show W7.heap[W3.heap.size]? = some (.cells #[.string k1, .bool o1_, .bool b1, .slice A5 (l1).length c5, .int .i64 n1] 31 (0, 0) : Obj) from row_on b RQ.out)
      have RR := hide (show W7.heap[W3.heap.size + 1]? = some (.cells #[.int .i64 c1, .int .i64 v1, .string t1, .int .i64 wa1, .int .i64 h1] 33 (0, 0) : Obj) from row_on b RR.out)
      have OP := hide (show RdL W7 2 cellEn (.slice A p.cells.length c) p.cells from RdL.below OP.out b (Nat.le_refl _))
      have OQ := hide (show RdL W7 2 cellEn (.slice A5 (l1).length c5) l1 from RdL.below OQ.out b (Nat.le_refl _))
      have BW := below_then BW b
      obtain ⟨f, hff⟩ : ∃ f, Hid (Pu.faceK p = f) := ⟨_, rfl⟩
      obtain ⟨wt, hwt⟩ : ∃ wt, Hid (Pu.wantF x.method.toList = wt) := ⟨_, rfl⟩
      try rw [hff.out, hwt.out] at RR
      rw [hff.out, hwt.out] at hof
      try rw [hff.out]
      rw [hwt.out]
      replace hof := hide hof
      obtain ⟨_, _, _, _, _, _⟩ := five_cells RP.out
      obtain ⟨_, _, _, _, _⟩ := four_cells RX.out
      obtain ⟨_, _, _, _, _, _⟩ := five_cells RQ.out
      obtain ⟨_, _, _, _, _, _⟩ := five_cells RR.out
      go_wp2_with fail
      go_quiet ((go_at_call 46; exact quiet_same (hof.out ▸ iOffers_c f wt _)))
      obtain ⟨_, _, _, _, _, _⟩ := five_cells RP.out
      obtain ⟨_, _, _, _, _⟩ := four_cells RX.out
      obtain ⟨_, _, _, _, _, _⟩ := five_cells RQ.out
      obtain ⟨_, _, _, _, _, _⟩ := five_cells RR.out
      go_wp2
      go_ret
      first | exact ⟨rfl, BW⟩ | exact ⟨rfl, below_drewN BW _⟩
  · go_enter Tryz.func7, Tryz.ntmps7
    go_wp2_with fail
    refine (big_c _ _ _ H0.out).mono ?_; rintro e w' ⟨rfl, rfl⟩
    rw [hbig]
    go_wp2
    go_ret
    exact ⟨rfl, Below.refl _ _⟩

/-- The laid heap meets the condition. -/
theorem door_met (os : Os) (args : Array Value) : laidMetH Tryz.prog Rows.fnCallWantsRow.laid ((World.laidAll Tryz.prog os Rows.fnCallWantsRow.laid).forCall (fun _ _ => 0) ⟨#[], args, []⟩).memory := by
  rw [MakeChecks.laidMetH_plain _ _ _ (by kernel_rfl)]
  exact laidMet_laidAll _ (by kernel_rfl) (by kernel_rfl)

set_option maxRecDepth 100000 in
theorem lifted (os : Os) (started : os.Started) (H : Type) (enc : TypeId × Value → H) :
    ReturnsInHanded {} Tryz.checked os 7 .any (fun w args => (Rows.fnCallWantsSpec.pre enc Tryz.prog Tryz.f7 [] false w args ∧ laidMetH Tryz.prog Rows.fnCallWantsRow.laid w) ∧ sizedMet enc Tryz.prog Tryz.f7 (OpenSpec.ofChange Rows.fnCallWantsSpec) false w args) (Rows.fnCallWantsSpec.post enc Tryz.prog Tryz.f7 false true false false) := by
  refine wrapV (C := Tryz.checked) (X := fun w _ => laidMetH Tryz.prog Rows.fnCallWantsRow.laid w) (fun _ _ _ hh h => h.of_heap hh) own started (by kernel_rfl) Tryz.func7
    (ChangeSpec.witness_shaped (enc := enc) (C := Tryz.checked) (os := os) (X := fun w _ => laidMetH Tryz.prog Rows.fnCallWantsRow.laid w) false (World.laidAll Tryz.prog os Rows.fnCallWantsRow.laid) #[.slice none 0 0] 8 (World.laidAll_os _ _ _) (World.shaped_of_ZipB (by kernel_rfl) (by kernel_rfl)) (by kernel_rfl) (by kernel_rfl) (by kernel_rfl) (door_met os _)) ?_
  intro W base args ds gs before hval0 hW hL hS
  have hval : ∀ (j : Nat) t v, Tryz.f7.params[j]? = some t → args[j]? = some v → Value.okWide Tryz.prog W .any base t v := hval0
  have hW' := hW
  obtain ⟨p, q, hA0, hV, rfl, hfz, hnd⟩ := hW
  have hA : DataW.TrodAll enc Tryz.prog W 0 (fun _ => true) true Tryz.f7.params.toList args.toList ds p := hA0
  rw [Tryz.params7] at hA hval
  obtain ⟨v0, vs0, d0, ds0, p0, q0, hargs, rfl, rfl, h0, r0⟩ := trodAll_cons hA
  obtain ⟨rfl, rfl, rfl⟩ := trodAll_nil r0
  obtain rfl : args = #[v0] := by cases args; simp_all
  obtain ⟨rfl, rfl⟩ := trodVars_none hV
  obtain ⟨a0, hv0⟩ := open_bytes (hval 0 55 v0 rfl rfl) h0
  refine (walk W (pow10_of (met_reads hL (by kernel_rfl) (.tail _ (.tail _ (.head _))))) (errsyn_of (met_reads hL (by kernel_rfl) (.tail _ (.tail _ (.tail _ (.tail _ (.tail _ (.head _)))))))) (maxc_of hS) v0 a0 hv0).mono fun e W' ⟨he, hg⟩ => ?_
  subst he
  exact ⟨_, rfl, law_postV (tb := 4) (by kernel_rfl) (by kernel_rfl) (by kernel_rfl) hW' hg rfl Tryz.underlying4 rfl rfl rfl⟩

theorem over : Rows.FnCallWantsSaid :=
  OpenClaim.holds_of_wide 7 Tryz.f7 rfl rfl rfl rfl rfl rfl rfl ⟨rfl, rfl, rfl, rfl, rfl⟩ rfl rfl rfl rfl rfl (by kernel_rfl) Tryz.func7 (by kernel_rfl)
    (of_decide_eq_true (by kernel_rfl)) (by unfold Func.isWrapper; first | (rw [if_pos (by decide +kernel)]; kernel_rfl) | (rw [if_neg (by decide +kernel)]; exact ⟨rfl, rfl⟩))
    (fun os started H enc _ => lifted os started H enc)

/-- The statement: the tied card. -/
theorem proved : Rows.FnCallWantsCardSaid :=
  Claim7.holds_tied_plain_at .later [] [.data, .data, .data, .data, .sentinel, .sentinel, .pinned] true (true, "15f444c23c93b2403839749698f01a757c47729f86feb889b0929fa11f9b21ff") true over (fun _ h => by cases h) (by kernel_rfl) (fun _ h => by cases h) fnCallWants_row_tie rfl ⟨rfl, rfl⟩ (by kernel_rfl) rfl
    (fun f fn hf hfn => by
      obtain rfl : 7 = f := Option.some.inj ((show Tryz.prog.funcNamed Rows.fnCallWantsRow.func = some 7 by kernel_rfl).symm.trans hf)
      obtain rfl : Tryz.f7 = fn := Option.some.inj (Tryz.func7.symm.trans hfn)
      exact ⟨by kernel_rfl, fun j t ht => by
        rw [Tryz.params7] at ht
        have hm : t ∈ [55] := by simpa using Array.mem_of_getElem? ht
        have hall : ([55].all fun u => !Tryz.prog.wantsStandIn u) = true := by kernel_rfl
        exact (show Tryz.prog.wantsStandIn t = false by simpa using List.all_eq_true.1 hall t hm)⟩)
    (by kernel_rfl)
#print axioms proved
end Go.Proofs.YtllmcnmongaahaaGreatDoor.fnCallWants
