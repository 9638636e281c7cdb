/- FnExactCallCores: for every input the law returns true, and its arguments read afterwards as they read before. No condition besides those of the statement itself. -/
import Derived.Test.YtllmcnmongaahaaGreatDoorM0
import Derived.Test.YtllmcnmongaahaaGreatDoorCards
import Derived.Test.YtllmcnmongaahaaGreatDoorTie
import Derived.LaidMore
import Derived.SevenTiedAt
import Derived.Stop.Joined
import Derived.Lay
import Derived.Test.YtllmcnmongaahaaGreatDoorM1
import Derived.Test.YtllmcnmongaahaaGreatDoorCallsX
import Derived.Test.YtllmcnmongaahaaGreatDoorCalls
import Derived.Test.YtllmcnmongaahaaGreatDoorM6
import Derived.Test.YtllmcnmongaahaaGreatDoorCore2
import Derived.ShutString
namespace Go.Proofs.YtllmcnmongaahaaGreatDoor.fnExactCallCores
open Go.ChangeShapes Go.WideShapes Go.ChangeAt Go.RowKit
set_option maxRecDepth 100000
open Go.ChangeMaps (open_string shut_string)
set_option linter.unusedVariables false

theorem own : ownKnob Tryz.prog.godebug = none := by kernel_rfl

set_option maxHeartbeats 8000000 in
/-- The walk: the Go text returns true. -/
theorem walk (w : World) (hT : Pow10 w) (hE : ErrSyn w) (hM : MaxC w) (v0 : Value) (a0 : Pu.CoreD) (hv0 : RdCore w v0 a0) (v1 : Value) (a1 : List Pu.CallD) (hv1 : RdCalls w v1 a1) :
    Calls Tryz.prog 4 #[v0, v1] w fun e w' => e = .returned (.bool true) ∧ Below w.heap.size w w' := by
  obtain ⟨wf0, s0, rfl, r0, z0⟩ := hv0
  obtain ⟨r1, wf1⟩ := hv1
  have Z0 := hide z0
  have WF0 := hide wf0
  have WF1 := hide wf1
  have V1 := hide r1
  clear z0 wf0 wf1
  have hlM := hM.lt
  have hlT := hT.lt
  have hlE := hE.lt
  have HM := hide hM
  have HT := hide hT
  have HE := hide hE
  clear hM hT hE
  obtain ⟨A1, c1, rfl, _, _, _⟩ := RdL.open_ r1
  clear r1
  by_cases hs : (a0.kind.size + a0.cells.length + Pu.tot (a0.cells.map (·.key)) : Int) ≤ 1048576
  · have hsz : Hid (Pu.szCore a0 1048576 = 1048576 - (a0.kind.size + a0.cells.length + Pu.tot (a0.cells.map (·.key)) : Int)) := by rw [Hid, Pu.szCore, if_pos hs]
    obtain ⟨L1, hL1⟩ : ∃ L1 : Int, L1 = 1048576 - (a0.kind.size + a0.cells.length + Pu.tot (a0.cells.map (·.key)) : Int) := ⟨_, rfl⟩
    rw [← hL1] at hsz
    have hLa : 0 ≤ L1 := by omega
    have hLb : L1 ≤ 1048576 := by omega
    have hln : a0.cells.length ≤ 1048576 := by omega
    clear hL1 hs
    have hal := (Pu.along_wf (Pu.calls_along (l := a1) (Pu.along_refl a0)) WF0.out Z0.out hln).2.2
    have hrl := Pu.calls_len (l := a1) (q := a0)
    obtain ⟨⟨⟨k1, o1, b1, l1, n1⟩, rs⟩, HR⟩ : ∃ R : Pu.CoreD × List Pu.ReplyD, Hid (Pu.callsF a0 a1 = R) := ⟨_, rfl⟩
    rw [HR.out] at hal hrl
    dsimp only at hal hrl
    unfold coreV
    go_enter Tryz.func4, Tryz.ntmps4
    have BW : Below w.heap.size w w := Below.refl _ _
    obtain ⟨W1, hW1⟩ : ∃ W, Hid ((w.alloc (.cells #[.string a0.kind, .bool a0.on, .bool a0.broken, s0, .int .i64 a0.count] 24 : Obj)) = W) := ⟨_, rfl⟩
    have b : Below w.heap.size w W1 := by rw [← hW1.out]; exact below_alloc (Below.refl _ _) _
    have hsW1 := b.size
    have hz_W1 := Below.size b
    have BW := below_then BW b
    have RP := hide (show W1.heap[w.heap.size]? = some (.cells #[.string a0.kind, .bool a0.on, .bool a0.broken, s0, .int .i64 a0.count] 24 (0, 0) : Obj) by rw [← hW1.out]; exact heap_new rfl)
    have EP := hide (show (w.alloc (.cells #[.string a0.kind, .bool a0.on, .bool a0.broken, s0, .int .i64 a0.count] 24 : Obj)).heap[w.heap.size]? = some (.cells #[.string a0.kind, .bool a0.on, .bool a0.broken, s0, .int .i64 a0.count] 24 (0, 0) : Obj) by rw [hW1.out]; exact RP.out)
    obtain ⟨_, _, _, _, _, _⟩ := five_cells EP.out
    obtain ⟨_, _, _, _, _, _⟩ := five_cells RP.out
    go_wp2_with fail
    rw [hW1.out]
    refine (szCore_c a0 s0 1048576 _ WF0.out (RdCells.below ⟨r0, Z0.out⟩ BW) (by omega) (by omega)).mono ?_; rintro e W2 ⟨rfl, b⟩
    rw [hsz.out]
    have hz_W2 := Below.size b
    have RP := hide (show W2.heap[w.heap.size]? = some (.cells #[.string a0.kind, .bool a0.on, .bool a0.broken, s0, .int .i64 a0.count] 24 (0, 0) : Obj) from row_on b RP.out)
    have BW := below_then BW b
    obtain ⟨_, _, _, _, _, _⟩ := five_cells RP.out
    go_wp2_with fail
    refine (szCallS_c _ a1 _ _ (RdL.below V1.out BW (Nat.le_refl _)) WF1.out hLa hLb).mono ?_; rintro e W3 ⟨he, b⟩
    have hz_W3 := Below.size b
    have RP := hide (show W3.heap[w.heap.size]? = some (.cells #[.string a0.kind, .bool a0.on, .bool a0.broken, s0, .int .i64 a0.count] 24 (0, 0) : Obj) from row_on b RP.out)
    have BW := below_then BW b
    rcases he with rfl | ⟨M, hN0, hN1, hl1, htx, rfl⟩
    · skip
      obtain ⟨_, _, _, _, _, _⟩ := five_cells RP.out
      go_wp2
      go_ret
      exact ⟨rfl, BW⟩
    have hNn : ¬ M < 0 := by omega
    have HX := hide (fun x hx => And.intro (WF1.out x hx) (htx x hx))
    clear htx
    obtain ⟨_, _, _, _, _, _⟩ := five_cells RP.out
    go_wp2_with fail
    refine (toCore_c a0 s0 _ (RdL.below r0 BW (Nat.le_refl _)) hln).mono ?_; rintro e W4 ⟨sT1, rfl, oo, b⟩
    obtain ⟨AT1, cT1, rfl⟩ := oo.shape
    have hsW4 := b.size
    unfold coreV
    have hz_W4 := Below.size b
    have RP := hide (show W4.heap[w.heap.size]? = some (.cells #[.string a0.kind, .bool a0.on, .bool a0.broken, s0, .int .i64 a0.count] 24 (0, 0) : Obj) from row_on b RP.out)
    have BW := below_then BW b
    have OT1 := hide oo
    clear oo
    obtain ⟨_, _, _, _, _, _⟩ := five_cells RP.out
    go_wp2_with fail
    refine (toCallS_c _ a1 _ (RdL.below V1.out BW (Nat.le_refl _)) hl1).mono ?_; rintro e W5 ⟨sT2, rfl, oo, b⟩
    obtain ⟨AT2, cT2, rfl⟩ := oo.shape
    have hsW5 := b.size
    have hz_W5 := Below.size b
    have RP := hide (show W5.heap[w.heap.size]? = some (.cells #[.string a0.kind, .bool a0.on, .bool a0.broken, s0, .int .i64 a0.count] 24 (0, 0) : Obj) from row_on b RP.out)
    have OT1 := hide (show OwnL W5 W3.heap.size 63 2 cellEn (.slice AT1 a0.cells.length cT1) (a0.cells) from OwnL.below OT1.out b (Nat.le_refl _))
    have BW := below_then BW b
    have OT2 := hide oo
    clear oo
    obtain ⟨_, _, _, _, _, _⟩ := five_cells RP.out
    go_wp2_with fail
    refine (sCallCores_c a0 _ _ a1 _ WF0.out ⟨OT1.out.rd (fun _ => rfl), Z0.out⟩ hln (OT2.out.rd (fun _ => rfl)) HX.out hl1).mono ?_; rintro e W6 ⟨sC6, sR7, rfl, oo, oq, b⟩
    rw [HR.out] at oo oq ⊢
    dsimp only at oo oq
    obtain ⟨AC6, cC6, rfl⟩ := oo.shape
    obtain ⟨AR7, cR7, rfl⟩ := oq.shape
    have hsW6 := b.size
    unfold coreV
    dsimp only
    have hz_W6 := Below.size b
    have RP := hide (show W6.heap[w.heap.size]? = some (.cells #[.string a0.kind, .bool a0.on, .bool a0.broken, s0, .int .i64 a0.count] 24 (0, 0) : Obj) from row_on b RP.out)
    have OT1 := hide (show OwnL W6 W3.heap.size 63 2 cellEn (.slice AT1 a0.cells.length cT1) (a0.cells) from OwnL.below OT1.out b (Nat.le_refl _))
    have OT2 := hide (show OwnL W6 W4.heap.size 37 4 callEn (.slice AT2 a1.length cT2) (a1) from OwnL.below OT2.out b (Nat.le_refl _))
    have BW := below_then BW b
    have OC6 := hide oo
    have OR7 := hide oq
    clear oo oq
    obtain ⟨W7, hW7⟩ : ∃ W, Hid ((W6.alloc (.cells #[.string k1, .bool o1, .bool b1, .slice AC6 l1.length cC6, .int .i64 n1] 31 : Obj)) = W) := ⟨_, rfl⟩
    have b : Below W6.heap.size W6 W7 := by rw [← hW7.out]; exact below_alloc (Below.refl _ _) _
    have hsW7 := b.size
    have hz_W7 := Below.size b
    have RP := hide (show W7.heap[w.heap.size]? = some (.cells #[.string a0.kind, .bool a0.on, .bool a0.broken, s0, .int .i64 a0.count] 24 (0, 0) : Obj) from row_on b RP.out)
    have OT1 := hide (show OwnL W7 W3.heap.size 63 2 cellEn (.slice AT1 a0.cells.length cT1) (a0.cells) from OwnL.below OT1.out b (Nat.le_refl _))
    have OT2 := hide (show OwnL W7 W4.heap.size 37 4 callEn (.slice AT2 a1.length cT2) (a1) from OwnL.below OT2.out b (Nat.le_refl _))
    have OC6 := hide (show OwnL W7 W5.heap.size 63 2 cellEn (.slice AC6 l1.length cC6) (l1) from OwnL.below OC6.out b (Nat.le_refl _))
    have OR7 := hide (show OwnL W7 W5.heap.size 33 5 replyEn (.slice AR7 rs.length cR7) (rs) from OwnL.below OR7.out b (Nat.le_refl _))
    have BW := below_then BW b
    have RQ6 := hide (show W7.heap[W6.heap.size]? = some (.cells #[.string k1, .bool o1, .bool b1, .slice AC6 l1.length cC6, .int .i64 n1] 31 (0, 0) : Obj) by rw [← hW7.out]; exact heap_new rfl)
    have EP := hide (show (W6.alloc (.cells #[.string k1, .bool o1, .bool b1, .slice AC6 l1.length cC6, .int .i64 n1] 31 : Obj)).heap[w.heap.size]? = some (.cells #[.string a0.kind, .bool a0.on, .bool a0.broken, s0, .int .i64 a0.count] 24 (0, 0) : Obj) by rw [hW7.out]; exact RP.out)
    have EQ6 := hide (show (W6.alloc (.cells #[.string k1, .bool o1, .bool b1, .slice AC6 l1.length cC6, .int .i64 n1] 31 : Obj)).heap[W6.heap.size]? = some (.cells #[.string k1, .bool o1, .bool b1, .slice AC6 l1.length cC6, .int .i64 n1] 31 (0, 0) : Obj) by rw [hW7.out]; exact RQ6.out)
    obtain ⟨_, _, _, _, _, _⟩ := five_cells EP.out
    obtain ⟨_, _, _, _, _, _⟩ := five_cells EQ6.out
    obtain ⟨_, _, _, _, _, _⟩ := five_cells RP.out
    obtain ⟨_, _, _, _, _, _⟩ := five_cells RQ6.out
    go_wp2_with fail
    rw [hW7.out]
    refine (toCore_c a0 s0 _ (RdL.below r0 BW (Nat.le_refl _)) hln).mono ?_; rintro e W8 ⟨sX8, rfl, oo, b⟩
    obtain ⟨AX8, cX8, rfl⟩ := oo.shape
    have hsW8 := b.size
    unfold coreV
    have SEP68 := hide (own_sep OC6.out oo (Nat.le_refl _))
    have hz_W8 := Below.size b
    have RP := hide (show W8.heap[w.heap.size]? = some (.cells #[.string a0.kind, .bool a0.on, .bool a0.broken, s0, .int .i64 a0.count] 24 (0, 0) : Obj) from row_on b RP.out)
    have RQ6 := hide (show W8.heap[W6.heap.size]? = some (.cells #[.string k1, .bool o1, .bool b1, .slice AC6 l1.length cC6, .int .i64 n1] 31 (0, 0) : Obj) from row_on b RQ6.out)
    have OC6 := hide (show OwnL W8 W5.heap.size 63 2 cellEn (.slice AC6 l1.length cC6) (l1) from OwnL.below OC6.out b (Nat.le_refl _))
    have OR7 := hide (show OwnL W8 W5.heap.size 33 5 replyEn (.slice AR7 rs.length cR7) (rs) from OwnL.below OR7.out b (Nat.le_refl _))
    have BW := below_then BW b
    have OX8 := hide oo
    clear oo
    obtain ⟨W9, hW9⟩ : ∃ W, Hid ((W8.alloc (.cells #[.string a0.kind, .bool a0.on, .bool a0.broken, .slice AX8 a0.cells.length cX8, .int .i64 a0.count] 31 : Obj)) = W) := ⟨_, rfl⟩
    have b : Below W8.heap.size W8 W9 := by rw [← hW9.out]; exact below_alloc (Below.refl _ _) _
    have hsW9 := b.size
    have hz_W9 := Below.size b
    have RP := hide (show W9.heap[w.heap.size]? = some (.cells #[.string a0.kind, .bool a0.on, .bool a0.broken, s0, .int .i64 a0.count] 24 (0, 0) : Obj) from row_on b RP.out)
    have RQ6 := hide (show W9.heap[W6.heap.size]? = some (.cells #[.string k1, .bool o1, .bool b1, .slice AC6 l1.length cC6, .int .i64 n1] 31 (0, 0) : Obj) from row_on b RQ6.out)
    have OC6 := hide (show OwnL W9 W5.heap.size 63 2 cellEn (.slice AC6 l1.length cC6) (l1) from OwnL.below OC6.out b (Nat.le_refl _))
    have OR7 := hide (show OwnL W9 W5.heap.size 33 5 replyEn (.slice AR7 rs.length cR7) (rs) from OwnL.below OR7.out b (Nat.le_refl _))
    have OX8 := hide (show OwnL W9 W7.heap.size 63 2 cellEn (.slice AX8 a0.cells.length cX8) (a0.cells) from OwnL.below OX8.out b (Nat.le_refl _))
    have BW := below_then BW b
    have RQ8 := hide (show W9.heap[W8.heap.size]? = some (.cells #[.string a0.kind, .bool a0.on, .bool a0.broken, .slice AX8 a0.cells.length cX8, .int .i64 a0.count] 31 (0, 0) : Obj) by rw [← hW9.out]; exact heap_new rfl)
    have EP := hide (show (W8.alloc (.cells #[.string a0.kind, .bool a0.on, .bool a0.broken, .slice AX8 a0.cells.length cX8, .int .i64 a0.count] 31 : Obj)).heap[w.heap.size]? = some (.cells #[.string a0.kind, .bool a0.on, .bool a0.broken, s0, .int .i64 a0.count] 24 (0, 0) : Obj) by rw [hW9.out]; exact RP.out)
    have EQ6 := hide (show (W8.alloc (.cells #[.string a0.kind, .bool a0.on, .bool a0.broken, .slice AX8 a0.cells.length cX8, .int .i64 a0.count] 31 : Obj)).heap[W6.heap.size]? = some (.cells #[.string k1, .bool o1, .bool b1, .slice AC6 l1.length cC6, .int .i64 n1] 31 (0, 0) : Obj) by rw [hW9.out]; exact RQ6.out)
    have EQ8 := hide (show (W8.alloc (.cells #[.string a0.kind, .bool a0.on, .bool a0.broken, .slice AX8 a0.cells.length cX8, .int .i64 a0.count] 31 : Obj)).heap[W8.heap.size]? = some (.cells #[.string a0.kind, .bool a0.on, .bool a0.broken, .slice AX8 a0.cells.length cX8, .int .i64 a0.count] 31 (0, 0) : Obj) by rw [hW9.out]; exact RQ8.out)
    obtain ⟨_, _, _, _, _, _⟩ := five_cells EP.out
    obtain ⟨_, _, _, _, _, _⟩ := five_cells EQ6.out
    obtain ⟨_, _, _, _, _, _⟩ := five_cells EQ8.out
    obtain ⟨_, _, _, _, _, _⟩ := five_cells RP.out
    obtain ⟨_, _, _, _, _, _⟩ := five_cells RQ6.out
    obtain ⟨_, _, _, _, _, _⟩ := five_cells RQ8.out
    go_wp2_with fail
    rw [hW9.out]
    refine (toCallS_c _ a1 _ (RdL.below V1.out BW (Nat.le_refl _)) hl1).mono ?_; rintro e W10 ⟨sX9, rfl, oo, b⟩
    obtain ⟨AX9, cX9, rfl⟩ := oo.shape
    have hsW10 := b.size
    have hz_W10 := Below.size b
    have RP := hide (show W10.heap[w.heap.size]? = some (.cells #[.string a0.kind, .bool a0.on, .bool a0.broken, s0, .int .i64 a0.count] 24 (0, 0) : Obj) from row_on b RP.out)
    have RQ6 := hide (show W10.heap[W6.heap.size]? = some (.cells #[.string k1, .bool o1, .bool b1, .slice AC6 l1.length cC6, .int .i64 n1] 31 (0, 0) : Obj) from row_on b RQ6.out)
    have RQ8 := hide (show W10.heap[W8.heap.size]? = some (.cells #[.string a0.kind, .bool a0.on, .bool a0.broken, .slice AX8 a0.cells.length cX8, .int .i64 a0.count] 31 (0, 0) : Obj) from row_on b RQ8.out)
    have OC6 := hide (show OwnL W10 W5.heap.size 63 2 cellEn (.slice AC6 l1.length cC6) (l1) from OwnL.below OC6.out b (Nat.le_refl _))
    have OR7 := hide (show OwnL W10 W5.heap.size 33 5 replyEn (.slice AR7 rs.length cR7) (rs) from OwnL.below OR7.out b (Nat.le_refl _))
    have OX8 := hide (show OwnL W10 W7.heap.size 63 2 cellEn (.slice AX8 a0.cells.length cX8) (a0.cells) from OwnL.below OX8.out b (Nat.le_refl _))
    have BW := below_then BW b
    have OX9 := hide oo
    clear oo
    obtain ⟨_, _, _, _, _, _⟩ := five_cells RP.out
    obtain ⟨_, _, _, _, _, _⟩ := five_cells RQ6.out
    obtain ⟨_, _, _, _, _, _⟩ := five_cells RQ8.out
    go_wp2_with fail
    refine (iCallCores_c a0 _ _ a1 _ (HM.out.below BW hlM) (HT.out.below BW hlT) (HE.out.below BW hlE) WF0.out ⟨OX8.out.rd (fun _ => rfl), Z0.out⟩ hln (OX9.out.rd (fun _ => rfl)) HX.out hl1).mono ?_; rintro e W11 ⟨sC10, sR11, rfl, oo, oq, b⟩
    rw [HR.out] at oo oq ⊢
    dsimp only at oo oq
    obtain ⟨AC10, cC10, rfl⟩ := oo.shape
    obtain ⟨AR11, cR11, rfl⟩ := oq.shape
    have hsW11 := b.size
    unfold coreV
    dsimp only
    have SEP610 := hide (own_sep OC6.out oo (Nat.le_refl _))
    have SEP810 := hide (own_sep OX8.out oo (Nat.le_refl _))
    have SEP711 := hide (own_sep OR7.out oq (Nat.le_refl _))
    have hz_W11 := Below.size b
    have RP := hide (show W11.heap[w.heap.size]? = some (.cells #[.string a0.kind, .bool a0.on, .bool a0.broken, s0, .int .i64 a0.count] 24 (0, 0) : Obj) from row_on b RP.out)
    have RQ6 := hide (show W11.heap[W6.heap.size]? = some (.cells #[.string k1, .bool o1, .bool b1, .slice AC6 l1.length cC6, .int .i64 n1] 31 (0, 0) : Obj) from row_on b RQ6.out)
    have RQ8 := hide (show W11.heap[W8.heap.size]? = some (.cells #[.string a0.kind, .bool a0.on, .bool a0.broken, .slice AX8 a0.cells.length cX8, .int .i64 a0.count] 31 (0, 0) : Obj) from row_on b RQ8.out)
    have OC6 := hide (show OwnL W11 W5.heap.size 63 2 cellEn (.slice AC6 l1.length cC6) (l1) from OwnL.below OC6.out b (Nat.le_refl _))
    have OR7 := hide (show OwnL W11 W5.heap.size 33 5 replyEn (.slice AR7 rs.length cR7) (rs) from OwnL.below OR7.out b (Nat.le_refl _))
    have OX8 := hide (show OwnL W11 W7.heap.size 63 2 cellEn (.slice AX8 a0.cells.length cX8) (a0.cells) from OwnL.below OX8.out b (Nat.le_refl _))
    have OX9 := hide (show OwnL W11 W9.heap.size 37 4 callEn (.slice AX9 a1.length cX9) (a1) from OwnL.below OX9.out b (Nat.le_refl _))
    have BW := below_then BW b
    have OC10 := hide oo
    have OR11 := hide oq
    clear oo oq
    obtain ⟨W12, hW12⟩ : ∃ W, Hid ((W11.alloc (.cells #[.string k1, .bool o1, .bool b1, .slice AC10 l1.length cC10, .int .i64 n1] 31 : Obj)) = W) := ⟨_, rfl⟩
    have b : Below W11.heap.size W11 W12 := by rw [← hW12.out]; exact below_alloc (Below.refl _ _) _
    have hsW12 := b.size
    have hz_W12 := Below.size b
    have RP := hide (show W12.heap[w.heap.size]? = some (.cells #[.string a0.kind, .bool a0.on, .bool a0.broken, s0, .int .i64 a0.count] 24 (0, 0) : Obj) from row_on b RP.out)
    have RQ6 := hide (show W12.heap[W6.heap.size]? = some (.cells #[.string k1, .bool o1, .bool b1, .slice AC6 l1.length cC6, .int .i64 n1] 31 (0, 0) : Obj) from row_on b RQ6.out)
    have RQ8 := hide (show W12.heap[W8.heap.size]? = some (.cells #[.string a0.kind, .bool a0.on, .bool a0.broken, .slice AX8 a0.cells.length cX8, .int .i64 a0.count] 31 (0, 0) : Obj) from row_on b RQ8.out)
    have OC6 := hide (show OwnL W12 W5.heap.size 63 2 cellEn (.slice AC6 l1.length cC6) (l1) from OwnL.below OC6.out b (Nat.le_refl _))
    have OR7 := hide (show OwnL W12 W5.heap.size 33 5 replyEn (.slice AR7 rs.length cR7) (rs) from OwnL.below OR7.out b (Nat.le_refl _))
    have OX8 := hide (show OwnL W12 W7.heap.size 63 2 cellEn (.slice AX8 a0.cells.length cX8) (a0.cells) from OwnL.below OX8.out b (Nat.le_refl _))
    have OX9 := hide (show OwnL W12 W9.heap.size 37 4 callEn (.slice AX9 a1.length cX9) (a1) from OwnL.below OX9.out b (Nat.le_refl _))
    have OC10 := hide (show OwnL W12 W10.heap.size 63 2 cellEn (.slice AC10 l1.length cC10) (l1) from OwnL.below OC10.out b (Nat.le_refl _))
    have OR11 := hide (show OwnL W12 W10.heap.size 33 5 replyEn (.slice AR11 rs.length cR11) (rs) from OwnL.below OR11.out b (Nat.le_refl _))
    have BW := below_then BW b
    have RQ10 := hide (show W12.heap[W11.heap.size]? = some (.cells #[.string k1, .bool o1, .bool b1, .slice AC10 l1.length cC10, .int .i64 n1] 31 (0, 0) : Obj) by rw [← hW12.out]; exact heap_new rfl)
    have EP := hide (show (W11.alloc (.cells #[.string k1, .bool o1, .bool b1, .slice AC10 l1.length cC10, .int .i64 n1] 31 : Obj)).heap[w.heap.size]? = some (.cells #[.string a0.kind, .bool a0.on, .bool a0.broken, s0, .int .i64 a0.count] 24 (0, 0) : Obj) by rw [hW12.out]; exact RP.out)
    have EQ6 := hide (show (W11.alloc (.cells #[.string k1, .bool o1, .bool b1, .slice AC10 l1.length cC10, .int .i64 n1] 31 : Obj)).heap[W6.heap.size]? = some (.cells #[.string k1, .bool o1, .bool b1, .slice AC6 l1.length cC6, .int .i64 n1] 31 (0, 0) : Obj) by rw [hW12.out]; exact RQ6.out)
    have EQ8 := hide (show (W11.alloc (.cells #[.string k1, .bool o1, .bool b1, .slice AC10 l1.length cC10, .int .i64 n1] 31 : Obj)).heap[W8.heap.size]? = some (.cells #[.string a0.kind, .bool a0.on, .bool a0.broken, .slice AX8 a0.cells.length cX8, .int .i64 a0.count] 31 (0, 0) : Obj) by rw [hW12.out]; exact RQ8.out)
    have EQ10 := hide (show (W11.alloc (.cells #[.string k1, .bool o1, .bool b1, .slice AC10 l1.length cC10, .int .i64 n1] 31 : Obj)).heap[W11.heap.size]? = some (.cells #[.string k1, .bool o1, .bool b1, .slice AC10 l1.length cC10, .int .i64 n1] 31 (0, 0) : Obj) by rw [hW12.out]; exact RQ10.out)
    obtain ⟨_, _, _, _, _, _⟩ := five_cells EP.out
    obtain ⟨_, _, _, _, _, _⟩ := five_cells EQ6.out
    obtain ⟨_, _, _, _, _, _⟩ := five_cells EQ8.out
    obtain ⟨_, _, _, _, _, _⟩ := five_cells EQ10.out
    obtain ⟨_, _, _, _, _, _⟩ := five_cells RP.out
    obtain ⟨_, _, _, _, _, _⟩ := five_cells RQ6.out
    obtain ⟨_, _, _, _, _, _⟩ := five_cells RQ8.out
    obtain ⟨_, _, _, _, _, _⟩ := five_cells RQ10.out
    go_wp2_with fail
    rw [hW12.out]
    refine (eqCore_c ⟨k1, o1, b1, l1, n1⟩ ⟨k1, o1, b1, l1, n1⟩ _ _ _ rfl (OC10.out.rd (fun _ => rfl)) (OC6.out.rd (fun _ => rfl))).mono ?_; rintro e W13 ⟨rfl, b⟩
    have hz_W13 := Below.size b
    have RP := hide (show W13.heap[w.heap.size]? = some (.cells #[.string a0.kind, .bool a0.on, .bool a0.broken, s0, .int .i64 a0.count] 24 (0, 0) : Obj) from row_on b RP.out)
    have RQ6 := hide (show W13.heap[W6.heap.size]? = some (.cells #[.string k1, .bool o1, .bool b1, .slice AC6 l1.length cC6, .int .i64 n1] 31 (0, 0) : Obj) from row_on b RQ6.out)
    have RQ8 := hide (show W13.heap[W8.heap.size]? = some (.cells #[.string a0.kind, .bool a0.on, .bool a0.broken, .slice AX8 a0.cells.length cX8, .int .i64 a0.count] 31 (0, 0) : Obj) from row_on b RQ8.out)
    have RQ10 := hide (show W13.heap[W11.heap.size]? = some (.cells #[.string k1, .bool o1, .bool b1, .slice AC10 l1.length cC10, .int .i64 n1] 31 (0, 0) : Obj) from row_on b RQ10.out)
    have OC6 := hide (show OwnL W13 W5.heap.size 63 2 cellEn (.slice AC6 l1.length cC6) (l1) from OwnL.below OC6.out b (Nat.le_refl _))
    have OR7 := hide (show OwnL W13 W5.heap.size 33 5 replyEn (.slice AR7 rs.length cR7) (rs) from OwnL.below OR7.out b (Nat.le_refl _))
    have OX8 := hide (show OwnL W13 W7.heap.size 63 2 cellEn (.slice AX8 a0.cells.length cX8) (a0.cells) from OwnL.below OX8.out b (Nat.le_refl _))
    have OX9 := hide (show OwnL W13 W9.heap.size 37 4 callEn (.slice AX9 a1.length cX9) (a1) from OwnL.below OX9.out b (Nat.le_refl _))
    have OC10 := hide (show OwnL W13 W10.heap.size 63 2 cellEn (.slice AC10 l1.length cC10) (l1) from OwnL.below OC10.out b (Nat.le_refl _))
    have OR11 := hide (show OwnL W13 W10.heap.size 33 5 replyEn (.slice AR11 rs.length cR11) (rs) from OwnL.below OR11.out b (Nat.le_refl _))
    have BW := below_then BW b
    obtain ⟨_, _, _, _, _, _⟩ := five_cells RP.out
    obtain ⟨_, _, _, _, _, _⟩ := five_cells RQ6.out
    obtain ⟨_, _, _, _, _, _⟩ := five_cells RQ8.out
    obtain ⟨_, _, _, _, _, _⟩ := five_cells RQ10.out
    go_wp2_with fail
    refine (eqReplyS_c _ _ rs _ (OR11.out.rd (fun _ => rfl)) (OR7.out.rd (fun _ => rfl))).mono ?_; rintro e W14 ⟨rfl, b⟩
    have hz_W14 := Below.size b
    have RP := hide (show W14.heap[w.heap.size]? = some (.cells #[.string a0.kind, .bool a0.on, .bool a0.broken, s0, .int .i64 a0.count] 24 (0, 0) : Obj) from row_on b RP.out)
    have RQ6 := hide (show W14.heap[W6.heap.size]? = some (.cells #[.string k1, .bool o1, .bool b1, .slice AC6 l1.length cC6, .int .i64 n1] 31 (0, 0) : Obj) from row_on b RQ6.out)
    have RQ8 := hide (show W14.heap[W8.heap.size]? = some (.cells #[.string a0.kind, .bool a0.on, .bool a0.broken, .slice AX8 a0.cells.length cX8, .int .i64 a0.count] 31 (0, 0) : Obj) from row_on b RQ8.out)
    have RQ10 := hide (show W14.heap[W11.heap.size]? = some (.cells #[.string k1, .bool o1, .bool b1, .slice AC10 l1.length cC10, .int .i64 n1] 31 (0, 0) : Obj) from row_on b RQ10.out)
    have OC6 := hide (show OwnL W14 W5.heap.size 63 2 cellEn (.slice AC6 l1.length cC6) (l1) from OwnL.below OC6.out b (Nat.le_refl _))
    have OR7 := hide (show OwnL W14 W5.heap.size 33 5 replyEn (.slice AR7 rs.length cR7) (rs) from OwnL.below OR7.out b (Nat.le_refl _))
    have OX8 := hide (show OwnL W14 W7.heap.size 63 2 cellEn (.slice AX8 a0.cells.length cX8) (a0.cells) from OwnL.below OX8.out b (Nat.le_refl _))
    have OX9 := hide (show OwnL W14 W9.heap.size 37 4 callEn (.slice AX9 a1.length cX9) (a1) from OwnL.below OX9.out b (Nat.le_refl _))
    have OC10 := hide (show OwnL W14 W10.heap.size 63 2 cellEn (.slice AC10 l1.length cC10) (l1) from OwnL.below OC10.out b (Nat.le_refl _))
    have OR11 := hide (show OwnL W14 W10.heap.size 33 5 replyEn (.slice AR11 rs.length cR11) (rs) from OwnL.below OR11.out b (Nat.le_refl _))
    have BW := below_then BW b
    obtain ⟨_, _, _, _, _, _⟩ := five_cells RP.out
    obtain ⟨_, _, _, _, _, _⟩ := five_cells RQ6.out
    obtain ⟨_, _, _, _, _, _⟩ := five_cells RQ8.out
    obtain ⟨_, _, _, _, _, _⟩ := five_cells RQ10.out
    go_upto_region 14 with fail
    have hzQ8 : W8.heap.size < W14.heap.size := (Array.getElem?_eq_some_iff.1 RQ8.out).1
    have hzP : w.heap.size < W14.heap.size := (Array.getElem?_eq_some_iff.1 RP.out).1
    have K0 : Below W14.heap.size W14 W14 := Below.refl _ _
    have KD : ∀ w' : World, Below W14.heap.size W14 w' → Below W14.heap.size W14 w'.drew := fun _ h => h.drew
    go_region_held3 (fun w' => Below W14.heap.size W14 w' ∧ w'.cell? ⟨W8.heap.size, 0, none⟩ = some (.string a0.kind) ∧ w'.cell? ⟨W8.heap.size, 1, none⟩ = some (.bool a0.on) ∧ w'.cell? ⟨W8.heap.size, 2, none⟩ = some (.bool a0.broken) ∧ w'.cell? ⟨W8.heap.size, 3, none⟩ = some (.slice AX8 a0.cells.length cX8) ∧ w'.cell? ⟨W8.heap.size, 4, none⟩ = some (.int .i64 a0.count) ∧ w'.cell? ⟨w.heap.size, 0, none⟩ = some (.string a0.kind) ∧ w'.cell? ⟨w.heap.size, 1, none⟩ = some (.bool a0.on) ∧ w'.cell? ⟨w.heap.size, 2, none⟩ = some (.bool a0.broken) ∧ w'.cell? ⟨w.heap.size, 3, none⟩ = some (s0) ∧ w'.cell? ⟨w.heap.size, 4, none⟩ = some (.int .i64 a0.count)) (go_keep)
      (first
        | (go_at_call 14;
            refine (toCore_c a0 s0 _ (RdL.below (RdL.below r0 BW (Nat.le_refl _)) (And.left (by assumption)) (Nat.le_refl _)) hln).mono ?_;
            rintro e WT ⟨vT, rfl, oT, bT⟩;
            have RT : RdL WT 2 cellEn vT a0.cells := oT.rd (fun _ => rfl);
            have KWWT : Below W14.heap.size W14 WT := below_then (And.left (by assumption)) bT;
            have KWT0 : ∀ k : Nat, WT.cell? ⟨W8.heap.size, k, none⟩ = _ := fun k => bT.cell (Nat.lt_of_lt_of_le hzQ8 (Below.size (And.left (by assumption))));
            have KWT1 : ∀ k : Nat, WT.cell? ⟨w.heap.size, k, none⟩ = _ := fun k => bT.cell (Nat.lt_of_lt_of_le hzP (Below.size (And.left (by assumption)))))
        | (go_at_call 17;
            refine (eqCore_c a0 a0 _ _ _ rfl (RdL.below (OX8.out.rd (fun _ => rfl)) (And.left (by assumption)) (Nat.le_refl _)) (RdL.below RT (by first | exact Below.refl _ _ | exact (Below.refl _ _).drew | exact (Below.refl _ _).drew.drew) (Nat.le_refl _))).mono ?_;
            rintro e WE ⟨rfl, bE⟩;
            have KWWE : Below W14.heap.size W14 WE := below_then (And.left (by assumption)) bE;
            have KWE0 : ∀ k : Nat, WE.cell? ⟨W8.heap.size, k, none⟩ = _ := fun k => bE.cell (Nat.lt_of_lt_of_le hzQ8 (Below.size (And.left (by assumption))));
            have KWE1 : ∀ k : Nat, WE.cell? ⟨w.heap.size, k, none⟩ = _ := fun k => bE.cell (Nat.lt_of_lt_of_le hzP (Below.size (And.left (by assumption))))))
    clear K0 KD
    have hz_WE := Below.size KWWE
    have RP := hide (show WE.heap[w.heap.size]? = some (.cells #[.string a0.kind, .bool a0.on, .bool a0.broken, s0, .int .i64 a0.count] 24 (0, 0) : Obj) from row_on KWWE RP.out)
    have RQ6 := hide (show WE.heap[W6.heap.size]? = some (.cells #[.string k1, .bool o1, .bool b1, .slice AC6 l1.length cC6, .int .i64 n1] 31 (0, 0) : Obj) from row_on KWWE RQ6.out)
    have RQ8 := hide (show WE.heap[W8.heap.size]? = some (.cells #[.string a0.kind, .bool a0.on, .bool a0.broken, .slice AX8 a0.cells.length cX8, .int .i64 a0.count] 31 (0, 0) : Obj) from row_on KWWE RQ8.out)
    have RQ10 := hide (show WE.heap[W11.heap.size]? = some (.cells #[.string k1, .bool o1, .bool b1, .slice AC10 l1.length cC10, .int .i64 n1] 31 (0, 0) : Obj) from row_on KWWE RQ10.out)
    have OC6 := hide (show OwnL WE W5.heap.size 63 2 cellEn (.slice AC6 l1.length cC6) (l1) from OwnL.below OC6.out KWWE (Nat.le_refl _))
    have OR7 := hide (show OwnL WE W5.heap.size 33 5 replyEn (.slice AR7 rs.length cR7) (rs) from OwnL.below OR7.out KWWE (Nat.le_refl _))
    have OX8 := hide (show OwnL WE W7.heap.size 63 2 cellEn (.slice AX8 a0.cells.length cX8) (a0.cells) from OwnL.below OX8.out KWWE (Nat.le_refl _))
    have OX9 := hide (show OwnL WE W9.heap.size 37 4 callEn (.slice AX9 a1.length cX9) (a1) from OwnL.below OX9.out KWWE (Nat.le_refl _))
    have OC10 := hide (show OwnL WE W10.heap.size 63 2 cellEn (.slice AC10 l1.length cC10) (l1) from OwnL.below OC10.out KWWE (Nat.le_refl _))
    have OR11 := hide (show OwnL WE W10.heap.size 33 5 replyEn (.slice AR11 rs.length cR11) (rs) from OwnL.below OR11.out KWWE (Nat.le_refl _))
    have BW := below_then BW KWWE
    obtain ⟨_, _, _, _, _, _⟩ := five_cells RP.out
    obtain ⟨_, _, _, _, _, _⟩ := five_cells RQ6.out
    obtain ⟨_, _, _, _, _, _⟩ := five_cells RQ8.out
    obtain ⟨_, _, _, _, _, _⟩ := five_cells RQ10.out
    go_wp2_with fail
    refine (toCallS_c _ a1 _ (RdL.below V1.out BW (Nat.le_refl _)) hl1).mono ?_; rintro e W15 ⟨sT3, rfl, oo, b⟩
    obtain ⟨AT3, cT3, rfl⟩ := oo.shape
    have hsW15 := b.size
    have hz_W15 := Below.size b
    have RP := hide (show W15.heap[w.heap.size]? = some (.cells #[.string a0.kind, .bool a0.on, .bool a0.broken, s0, .int .i64 a0.count] 24 (0, 0) : Obj) from row_on b RP.out)
    have RQ6 := hide (show W15.heap[W6.heap.size]? = some (.cells #[.string k1, .bool o1, .bool b1, .slice AC6 l1.length cC6, .int .i64 n1] 31 (0, 0) : Obj) from row_on b RQ6.out)
    have RQ8 := hide (show W15.heap[W8.heap.size]? = some (.cells #[.string a0.kind, .bool a0.on, .bool a0.broken, .slice AX8 a0.cells.length cX8, .int .i64 a0.count] 31 (0, 0) : Obj) from row_on b RQ8.out)
    have RQ10 := hide (show W15.heap[W11.heap.size]? = some (.cells #[.string k1, .bool o1, .bool b1, .slice AC10 l1.length cC10, .int .i64 n1] 31 (0, 0) : Obj) from row_on b RQ10.out)
    have OC6 := hide (show OwnL W15 W5.heap.size 63 2 cellEn (.slice AC6 l1.length cC6) (l1) from OwnL.below OC6.out b (Nat.le_refl _))
    have OR7 := hide (show OwnL W15 W5.heap.size 33 5 replyEn (.slice AR7 rs.length cR7) (rs) from OwnL.below OR7.out b (Nat.le_refl _))
    have OX8 := hide (show OwnL W15 W7.heap.size 63 2 cellEn (.slice AX8 a0.cells.length cX8) (a0.cells) from OwnL.below OX8.out b (Nat.le_refl _))
    have OX9 := hide (show OwnL W15 W9.heap.size 37 4 callEn (.slice AX9 a1.length cX9) (a1) from OwnL.below OX9.out b (Nat.le_refl _))
    have OC10 := hide (show OwnL W15 W10.heap.size 63 2 cellEn (.slice AC10 l1.length cC10) (l1) from OwnL.below OC10.out b (Nat.le_refl _))
    have OR11 := hide (show OwnL W15 W10.heap.size 33 5 replyEn (.slice AR11 rs.length cR11) (rs) from OwnL.below OR11.out b (Nat.le_refl _))
    have BW := below_then BW b
    have OT3 := hide oo
    clear oo
    obtain ⟨_, _, _, _, _, _⟩ := five_cells RP.out
    obtain ⟨_, _, _, _, _, _⟩ := five_cells RQ6.out
    obtain ⟨_, _, _, _, _, _⟩ := five_cells RQ8.out
    obtain ⟨_, _, _, _, _, _⟩ := five_cells RQ10.out
    go_wp2_with fail
    refine (eqCallS_c _ _ a1 _ (OX9.out.rd (fun _ => rfl)) (OT3.out.rd (fun _ => rfl))).mono ?_; rintro e W16 ⟨rfl, b⟩
    have hz_W16 := Below.size b
    have RP := hide (show W16.heap[w.heap.size]? = some (.cells #[.string a0.kind, .bool a0.on, .bool a0.broken, s0, .int .i64 a0.count] 24 (0, 0) : Obj) from row_on b RP.out)
    have RQ6 := hide (show W16.heap[W6.heap.size]? = some (.cells #[.string k1, .bool o1, .bool b1, .slice AC6 l1.length cC6, .int .i64 n1] 31 (0, 0) : Obj) from row_on b RQ6.out)
    have RQ8 := hide (show W16.heap[W8.heap.size]? = some (.cells #[.string a0.kind, .bool a0.on, .bool a0.broken, .slice AX8 a0.cells.length cX8, .int .i64 a0.count] 31 (0, 0) : Obj) from row_on b RQ8.out)
    have RQ10 := hide (show W16.heap[W11.heap.size]? = some (.cells #[.string k1, .bool o1, .bool b1, .slice AC10 l1.length cC10, .int .i64 n1] 31 (0, 0) : Obj) from row_on b RQ10.out)
    have OC6 := hide (show OwnL W16 W5.heap.size 63 2 cellEn (.slice AC6 l1.length cC6) (l1) from OwnL.below OC6.out b (Nat.le_refl _))
    have OR7 := hide (show OwnL W16 W5.heap.size 33 5 replyEn (.slice AR7 rs.length cR7) (rs) from OwnL.below OR7.out b (Nat.le_refl _))
    have OX8 := hide (show OwnL W16 W7.heap.size 63 2 cellEn (.slice AX8 a0.cells.length cX8) (a0.cells) from OwnL.below OX8.out b (Nat.le_refl _))
    have OX9 := hide (show OwnL W16 W9.heap.size 37 4 callEn (.slice AX9 a1.length cX9) (a1) from OwnL.below OX9.out b (Nat.le_refl _))
    have OC10 := hide (show OwnL W16 W10.heap.size 63 2 cellEn (.slice AC10 l1.length cC10) (l1) from OwnL.below OC10.out b (Nat.le_refl _))
    have OR11 := hide (show OwnL W16 W10.heap.size 33 5 replyEn (.slice AR11 rs.length cR11) (rs) from OwnL.below OR11.out b (Nat.le_refl _))
    have OT3 := hide (show OwnL W16 WE.heap.size 37 4 callEn (.slice AT3 a1.length cT3) (a1) from OwnL.below OT3.out b (Nat.le_refl _))
    have BW := below_then BW b
    obtain ⟨_, _, _, _, _, _⟩ := five_cells RP.out
    obtain ⟨_, _, _, _, _, _⟩ := five_cells RQ6.out
    obtain ⟨_, _, _, _, _, _⟩ := five_cells RQ8.out
    obtain ⟨_, _, _, _, _, _⟩ := five_cells RQ10.out
    go_wp2_with fail
    refine (markCore_c a0 _ _ 1 _ _ OX8.out (by omega) (by omega) (by omega)).mono ?_; rintro e W17 ⟨rfl, om, gm⟩
    have RP := hide (show W17.heap[w.heap.size]? = some (.cells #[.string a0.kind, .bool a0.on, .bool a0.broken, s0, .int .i64 a0.count] 24 (0, 0) : Obj) from row_grown gm RP.out (own_far OX8.out RP.out (by decide)))
    have RQ6 := hide (show W17.heap[W6.heap.size]? = some (.cells #[.string k1, .bool o1, .bool b1, .slice AC6 l1.length cC6, .int .i64 n1] 31 (0, 0) : Obj) from row_grown gm RQ6.out (own_far OX8.out RQ6.out (by decide)))
    have RQ8 := hide (show W17.heap[W8.heap.size]? = some (.cells #[.string a0.kind, .bool a0.on, .bool a0.broken, .slice AX8 a0.cells.length cX8, .int .i64 a0.count] 31 (0, 0) : Obj) from row_grown gm RQ8.out (own_far OX8.out RQ8.out (by decide)))
    have RQ10 := hide (show W17.heap[W11.heap.size]? = some (.cells #[.string k1, .bool o1, .bool b1, .slice AC10 l1.length cC10, .int .i64 n1] 31 (0, 0) : Obj) from row_grown gm RQ10.out (own_far OX8.out RQ10.out (by decide)))
    have OC6 := hide (show OwnL W17 W5.heap.size 63 2 cellEn (.slice AC6 l1.length cC6) (l1) from OwnL.kept OC6.out gm (SEP68.out.1))
    have OC10 := hide (show OwnL W17 W10.heap.size 63 2 cellEn (.slice AC10 l1.length cC10) (l1) from OwnL.kept OC10.out gm (SEP810.out.2))
    have OR7 := hide (show OwnL W17 W5.heap.size 33 5 replyEn (.slice AR7 rs.length cR7) (rs) from OwnL.kept OR7.out gm (own_kinds OR7.out OX8.out (by decide)))
    have OR11 := hide (show OwnL W17 W10.heap.size 33 5 replyEn (.slice AR11 rs.length cR11) (rs) from OwnL.kept OR11.out gm (own_kinds OR11.out OX8.out (by decide)))
    have OX9 := hide (show OwnL W17 W9.heap.size 37 4 callEn (.slice AX9 a1.length cX9) (a1) from OwnL.kept OX9.out gm (own_kinds OX9.out OX8.out (by decide)))
    have BW := Below.grown BW gm BW.size (fun j hj => Nat.le_trans (by omega) (OwnL.lt OX8.out hj).1)
    clear OX8
    have OX8 := hide (show OwnL W17 W7.heap.size 63 2 cellEn (.slice AX8 a0.cells.length cX8) (Pu.gen (Pu.gC 1) a0.cells.length) from om)
    clear om gm
    obtain ⟨_, _, _, _, _, _⟩ := five_cells RP.out
    obtain ⟨_, _, _, _, _, _⟩ := five_cells RQ6.out
    obtain ⟨_, _, _, _, _, _⟩ := five_cells RQ8.out
    obtain ⟨_, _, _, _, _, _⟩ := five_cells RQ10.out
    go_wp2_with fail
    refine (markCallS_c _ a1 _ _ _ OX9.out (by omega) (by omega) (by omega)).mono ?_; rintro e W18 ⟨rfl, gm⟩
    have RP := hide (show W18.heap[w.heap.size]? = some (.cells #[.string a0.kind, .bool a0.on, .bool a0.broken, s0, .int .i64 a0.count] 24 (0, 0) : Obj) from row_grown gm RP.out (own_far OX9.out RP.out (by decide)))
    have RQ6 := hide (show W18.heap[W6.heap.size]? = some (.cells #[.string k1, .bool o1, .bool b1, .slice AC6 l1.length cC6, .int .i64 n1] 31 (0, 0) : Obj) from row_grown gm RQ6.out (own_far OX9.out RQ6.out (by decide)))
    have RQ8 := hide (show W18.heap[W8.heap.size]? = some (.cells #[.string a0.kind, .bool a0.on, .bool a0.broken, .slice AX8 a0.cells.length cX8, .int .i64 a0.count] 31 (0, 0) : Obj) from row_grown gm RQ8.out (own_far OX9.out RQ8.out (by decide)))
    have RQ10 := hide (show W18.heap[W11.heap.size]? = some (.cells #[.string k1, .bool o1, .bool b1, .slice AC10 l1.length cC10, .int .i64 n1] 31 (0, 0) : Obj) from row_grown gm RQ10.out (own_far OX9.out RQ10.out (by decide)))
    have OC6 := hide (show OwnL W18 W5.heap.size 63 2 cellEn (.slice AC6 l1.length cC6) (l1) from OwnL.kept OC6.out gm (own_kinds OC6.out OX9.out (by decide)))
    have OC10 := hide (show OwnL W18 W10.heap.size 63 2 cellEn (.slice AC10 l1.length cC10) (l1) from OwnL.kept OC10.out gm (own_kinds OC10.out OX9.out (by decide)))
    have OR7 := hide (show OwnL W18 W5.heap.size 33 5 replyEn (.slice AR7 rs.length cR7) (rs) from OwnL.kept OR7.out gm (own_kinds OR7.out OX9.out (by decide)))
    have OR11 := hide (show OwnL W18 W10.heap.size 33 5 replyEn (.slice AR11 rs.length cR11) (rs) from OwnL.kept OR11.out gm (own_kinds OR11.out OX9.out (by decide)))
    have BW := Below.grown BW gm BW.size (fun j hj => Nat.le_trans (by omega) (OwnL.lt OX9.out hj).1)
    clear gm
    have hm1 : ¬ (1 + 2 * (a0.cells.length : Int) + 4 * (a1.length : Int)) < 0 := by omega
    obtain ⟨_, _, _, _, _, _⟩ := five_cells RP.out
    obtain ⟨_, _, _, _, _, _⟩ := five_cells RQ6.out
    obtain ⟨_, _, _, _, _, _⟩ := five_cells RQ8.out
    obtain ⟨_, _, _, _, _, _⟩ := five_cells RQ10.out
    go_wp2_with fail
    refine (eqCore_c ⟨k1, o1, b1, l1, n1⟩ ⟨k1, o1, b1, l1, n1⟩ _ _ _ rfl (OC10.out.rd (fun _ => rfl)) (OC6.out.rd (fun _ => rfl))).mono ?_; rintro e W19 ⟨rfl, b⟩
    have hz_W19 := Below.size b
    have RP := hide (show W19.heap[w.heap.size]? = some (.cells #[.string a0.kind, .bool a0.on, .bool a0.broken, s0, .int .i64 a0.count] 24 (0, 0) : Obj) from row_on b RP.out)
    have RQ6 := hide (show W19.heap[W6.heap.size]? = some (.cells #[.string k1, .bool o1, .bool b1, .slice AC6 l1.length cC6, .int .i64 n1] 31 (0, 0) : Obj) from row_on b RQ6.out)
    have RQ8 := hide (show W19.heap[W8.heap.size]? = some (.cells #[.string a0.kind, .bool a0.on, .bool a0.broken, .slice AX8 a0.cells.length cX8, .int .i64 a0.count] 31 (0, 0) : Obj) from row_on b RQ8.out)
    have RQ10 := hide (show W19.heap[W11.heap.size]? = some (.cells #[.string k1, .bool o1, .bool b1, .slice AC10 l1.length cC10, .int .i64 n1] 31 (0, 0) : Obj) from row_on b RQ10.out)
    have OC6 := hide (show OwnL W19 W5.heap.size 63 2 cellEn (.slice AC6 l1.length cC6) (l1) from OwnL.below OC6.out b (Nat.le_refl _))
    have OR7 := hide (show OwnL W19 W5.heap.size 33 5 replyEn (.slice AR7 rs.length cR7) (rs) from OwnL.below OR7.out b (Nat.le_refl _))
    have OC10 := hide (show OwnL W19 W10.heap.size 63 2 cellEn (.slice AC10 l1.length cC10) (l1) from OwnL.below OC10.out b (Nat.le_refl _))
    have OR11 := hide (show OwnL W19 W10.heap.size 33 5 replyEn (.slice AR11 rs.length cR11) (rs) from OwnL.below OR11.out b (Nat.le_refl _))
    have BW := below_then BW b
    obtain ⟨_, _, _, _, _, _⟩ := five_cells RP.out
    obtain ⟨_, _, _, _, _, _⟩ := five_cells RQ6.out
    obtain ⟨_, _, _, _, _, _⟩ := five_cells RQ8.out
    obtain ⟨_, _, _, _, _, _⟩ := five_cells RQ10.out
    go_wp2_with fail
    refine (eqReplyS_c _ _ rs _ (OR11.out.rd (fun _ => rfl)) (OR7.out.rd (fun _ => rfl))).mono ?_; rintro e W20 ⟨rfl, b⟩
    have hz_W20 := Below.size b
    have RP := hide (show W20.heap[w.heap.size]? = some (.cells #[.string a0.kind, .bool a0.on, .bool a0.broken, s0, .int .i64 a0.count] 24 (0, 0) : Obj) from row_on b RP.out)
    have RQ6 := hide (show W20.heap[W6.heap.size]? = some (.cells #[.string k1, .bool o1, .bool b1, .slice AC6 l1.length cC6, .int .i64 n1] 31 (0, 0) : Obj) from row_on b RQ6.out)
    have RQ8 := hide (show W20.heap[W8.heap.size]? = some (.cells #[.string a0.kind, .bool a0.on, .bool a0.broken, .slice AX8 a0.cells.length cX8, .int .i64 a0.count] 31 (0, 0) : Obj) from row_on b RQ8.out)
    have RQ10 := hide (show W20.heap[W11.heap.size]? = some (.cells #[.string k1, .bool o1, .bool b1, .slice AC10 l1.length cC10, .int .i64 n1] 31 (0, 0) : Obj) from row_on b RQ10.out)
    have OC6 := hide (show OwnL W20 W5.heap.size 63 2 cellEn (.slice AC6 l1.length cC6) (l1) from OwnL.below OC6.out b (Nat.le_refl _))
    have OR7 := hide (show OwnL W20 W5.heap.size 33 5 replyEn (.slice AR7 rs.length cR7) (rs) from OwnL.below OR7.out b (Nat.le_refl _))
    have OC10 := hide (show OwnL W20 W10.heap.size 63 2 cellEn (.slice AC10 l1.length cC10) (l1) from OwnL.below OC10.out b (Nat.le_refl _))
    have OR11 := hide (show OwnL W20 W10.heap.size 33 5 replyEn (.slice AR11 rs.length cR11) (rs) from OwnL.below OR11.out b (Nat.le_refl _))
    have BW := below_then BW b
    obtain ⟨_, _, _, _, _, _⟩ := five_cells RP.out
    obtain ⟨_, _, _, _, _, _⟩ := five_cells RQ6.out
    obtain ⟨_, _, _, _, _, _⟩ := five_cells RQ8.out
    obtain ⟨_, _, _, _, _, _⟩ := five_cells RQ10.out
    go_wp2_with fail
    refine (markCore_c ⟨k1, o1, b1, l1, n1⟩ _ _ 1 _ _ OC10.out (by omega) (by omega) (by omega)).mono ?_; rintro e W21 ⟨rfl, om, gm⟩
    have RP := hide (show W21.heap[w.heap.size]? = some (.cells #[.string a0.kind, .bool a0.on, .bool a0.broken, s0, .int .i64 a0.count] 24 (0, 0) : Obj) from row_grown gm RP.out (own_far OC10.out RP.out (by decide)))
    have RQ6 := hide (show W21.heap[W6.heap.size]? = some (.cells #[.string k1, .bool o1, .bool b1, .slice AC6 l1.length cC6, .int .i64 n1] 31 (0, 0) : Obj) from row_grown gm RQ6.out (own_far OC10.out RQ6.out (by decide)))
    have RQ8 := hide (show W21.heap[W8.heap.size]? = some (.cells #[.string a0.kind, .bool a0.on, .bool a0.broken, .slice AX8 a0.cells.length cX8, .int .i64 a0.count] 31 (0, 0) : Obj) from row_grown gm RQ8.out (own_far OC10.out RQ8.out (by decide)))
    have RQ10 := hide (show W21.heap[W11.heap.size]? = some (.cells #[.string k1, .bool o1, .bool b1, .slice AC10 l1.length cC10, .int .i64 n1] 31 (0, 0) : Obj) from row_grown gm RQ10.out (own_far OC10.out RQ10.out (by decide)))
    have OC6 := hide (show OwnL W21 W5.heap.size 63 2 cellEn (.slice AC6 l1.length cC6) (l1) from OwnL.kept OC6.out gm (SEP610.out.1))
    have OR7 := hide (show OwnL W21 W5.heap.size 33 5 replyEn (.slice AR7 rs.length cR7) (rs) from OwnL.kept OR7.out gm (own_kinds OR7.out OC10.out (by decide)))
    have OR11 := hide (show OwnL W21 W10.heap.size 33 5 replyEn (.slice AR11 rs.length cR11) (rs) from OwnL.kept OR11.out gm (own_kinds OR11.out OC10.out (by decide)))
    have BW := Below.grown BW gm BW.size (fun j hj => Nat.le_trans (by omega) (OwnL.lt OC10.out hj).1)
    clear OC10
    have OC10 := hide (show OwnL W21 W10.heap.size 63 2 cellEn (.slice AC10 l1.length cC10) (Pu.gen (Pu.gC 1) l1.length) from om)
    clear om gm
    obtain ⟨_, _, _, _, _, _⟩ := five_cells RP.out
    obtain ⟨_, _, _, _, _, _⟩ := five_cells RQ6.out
    obtain ⟨_, _, _, _, _, _⟩ := five_cells RQ8.out
    obtain ⟨_, _, _, _, _, _⟩ := five_cells RQ10.out
    go_wp2_with fail
    refine (markReplyS_c _ rs _ _ _ OR11.out (by omega) (by omega) (by omega)).mono ?_; rintro e W22 ⟨rfl, om, gm⟩
    have RP := hide (show W22.heap[w.heap.size]? = some (.cells #[.string a0.kind, .bool a0.on, .bool a0.broken, s0, .int .i64 a0.count] 24 (0, 0) : Obj) from row_grown gm RP.out (own_far OR11.out RP.out (by decide)))
    have RQ6 := hide (show W22.heap[W6.heap.size]? = some (.cells #[.string k1, .bool o1, .bool b1, .slice AC6 l1.length cC6, .int .i64 n1] 31 (0, 0) : Obj) from row_grown gm RQ6.out (own_far OR11.out RQ6.out (by decide)))
    have RQ8 := hide (show W22.heap[W8.heap.size]? = some (.cells #[.string a0.kind, .bool a0.on, .bool a0.broken, .slice AX8 a0.cells.length cX8, .int .i64 a0.count] 31 (0, 0) : Obj) from row_grown gm RQ8.out (own_far OR11.out RQ8.out (by decide)))
    have RQ10 := hide (show W22.heap[W11.heap.size]? = some (.cells #[.string k1, .bool o1, .bool b1, .slice AC10 l1.length cC10, .int .i64 n1] 31 (0, 0) : Obj) from row_grown gm RQ10.out (own_far OR11.out RQ10.out (by decide)))
    have OC6 := hide (show OwnL W22 W5.heap.size 63 2 cellEn (.slice AC6 l1.length cC6) (l1) from OwnL.kept OC6.out gm (own_kinds OC6.out OR11.out (by decide)))
    have OR7 := hide (show OwnL W22 W5.heap.size 33 5 replyEn (.slice AR7 rs.length cR7) (rs) from OwnL.kept OR7.out gm (SEP711.out.1))
    have OC10 := hide (show OwnL W22 W10.heap.size 63 2 cellEn (.slice AC10 l1.length cC10) (Pu.gen (Pu.gC 1) l1.length) from OwnL.kept OC10.out gm (own_kinds OC10.out OR11.out (by decide)))
    have BW := Below.grown BW gm BW.size (fun j hj => Nat.le_trans (by omega) (OwnL.lt OR11.out hj).1)
    clear OR11
    have OR11 := hide (show OwnL W22 W10.heap.size 33 5 replyEn (.slice AR11 rs.length cR11) (Pu.gen (Pu.gR (1 + 2 * (l1.length : Int))) rs.length) from om)
    clear om gm
    have hm2 : ¬ (1 + 2 * (l1.length : Int)) < 0 := by omega
    have hm3 : ¬ (1 + 2 * (l1.length : Int) + 5 * (rs.length : Int)) < 0 := by omega
    obtain ⟨_, _, _, _, _, _⟩ := five_cells RP.out
    obtain ⟨_, _, _, _, _, _⟩ := five_cells RQ6.out
    obtain ⟨_, _, _, _, _, _⟩ := five_cells RQ8.out
    obtain ⟨_, _, _, _, _, _⟩ := five_cells RQ10.out
    go_wp2_with fail
    refine (heldCore_c ⟨k1, o1, b1, l1, n1⟩ _ _ 1 _ (OC10.out.rd (fun _ => rfl)) (by omega) (by omega) (by omega)).mono ?_; rintro e W23 ⟨rfl, b⟩
    have hz_W23 := Below.size b
    have RP := hide (show W23.heap[w.heap.size]? = some (.cells #[.string a0.kind, .bool a0.on, .bool a0.broken, s0, .int .i64 a0.count] 24 (0, 0) : Obj) from row_on b RP.out)
    have RQ6 := hide (show W23.heap[W6.heap.size]? = some (.cells #[.string k1, .bool o1, .bool b1, .slice AC6 l1.length cC6, .int .i64 n1] 31 (0, 0) : Obj) from row_on b RQ6.out)
    have RQ8 := hide (show W23.heap[W8.heap.size]? = some (.cells #[.string a0.kind, .bool a0.on, .bool a0.broken, .slice AX8 a0.cells.length cX8, .int .i64 a0.count] 31 (0, 0) : Obj) from row_on b RQ8.out)
    have RQ10 := hide (show W23.heap[W11.heap.size]? = some (.cells #[.string k1, .bool o1, .bool b1, .slice AC10 l1.length cC10, .int .i64 n1] 31 (0, 0) : Obj) from row_on b RQ10.out)
    have OC6 := hide (show OwnL W23 W5.heap.size 63 2 cellEn (.slice AC6 l1.length cC6) (l1) from OwnL.below OC6.out b (Nat.le_refl _))
    have OR7 := hide (show OwnL W23 W5.heap.size 33 5 replyEn (.slice AR7 rs.length cR7) (rs) from OwnL.below OR7.out b (Nat.le_refl _))
    have OC10 := hide (show OwnL W23 W10.heap.size 63 2 cellEn (.slice AC10 l1.length cC10) (Pu.gen (Pu.gC 1) l1.length) from OwnL.below OC10.out b (Nat.le_refl _))
    have OR11 := hide (show OwnL W23 W10.heap.size 33 5 replyEn (.slice AR11 rs.length cR11) (Pu.gen (Pu.gR (1 + 2 * (l1.length : Int))) rs.length) from OwnL.below OR11.out b (Nat.le_refl _))
    have BW := below_then BW b
    obtain ⟨_, _, _, _, _, _⟩ := five_cells RP.out
    obtain ⟨_, _, _, _, _, _⟩ := five_cells RQ6.out
    obtain ⟨_, _, _, _, _, _⟩ := five_cells RQ8.out
    obtain ⟨_, _, _, _, _, _⟩ := five_cells RQ10.out
    go_wp2_with fail
    refine (heldReplyS_c _ _ (1 + 2 * (l1.length : Int)) _ (OR11.out.rd (fun _ => rfl)) (by omega) (by omega) (by omega)).mono ?_; rintro e W24 ⟨rfl, b⟩
    have hz_W24 := Below.size b
    have RP := hide (show W24.heap[w.heap.size]? = some (.cells #[.string a0.kind, .bool a0.on, .bool a0.broken, s0, .int .i64 a0.count] 24 (0, 0) : Obj) from row_on b RP.out)
    have RQ6 := hide (show W24.heap[W6.heap.size]? = some (.cells #[.string k1, .bool o1, .bool b1, .slice AC6 l1.length cC6, .int .i64 n1] 31 (0, 0) : Obj) from row_on b RQ6.out)
    have RQ8 := hide (show W24.heap[W8.heap.size]? = some (.cells #[.string a0.kind, .bool a0.on, .bool a0.broken, .slice AX8 a0.cells.length cX8, .int .i64 a0.count] 31 (0, 0) : Obj) from row_on b RQ8.out)
    have RQ10 := hide (show W24.heap[W11.heap.size]? = some (.cells #[.string k1, .bool o1, .bool b1, .slice AC10 l1.length cC10, .int .i64 n1] 31 (0, 0) : Obj) from row_on b RQ10.out)
    have OC6 := hide (show OwnL W24 W5.heap.size 63 2 cellEn (.slice AC6 l1.length cC6) (l1) from OwnL.below OC6.out b (Nat.le_refl _))
    have OR7 := hide (show OwnL W24 W5.heap.size 33 5 replyEn (.slice AR7 rs.length cR7) (rs) from OwnL.below OR7.out b (Nat.le_refl _))
    have OC10 := hide (show OwnL W24 W10.heap.size 63 2 cellEn (.slice AC10 l1.length cC10) (Pu.gen (Pu.gC 1) l1.length) from OwnL.below OC10.out b (Nat.le_refl _))
    have OR11 := hide (show OwnL W24 W10.heap.size 33 5 replyEn (.slice AR11 rs.length cR11) (Pu.gen (Pu.gR (1 + 2 * (l1.length : Int))) rs.length) from OwnL.below OR11.out b (Nat.le_refl _))
    have BW := below_then BW b
    obtain ⟨_, _, _, _, _, _⟩ := five_cells RP.out
    obtain ⟨_, _, _, _, _, _⟩ := five_cells RQ6.out
    obtain ⟨_, _, _, _, _, _⟩ := five_cells RQ8.out
    obtain ⟨_, _, _, _, _, _⟩ := five_cells RQ10.out
    go_wp2_with fail
    refine (toCore_c a0 s0 _ (RdL.below r0 BW (Nat.le_refl _)) hln).mono ?_; rintro e W25 ⟨sT4, rfl, oo, b⟩
    obtain ⟨AT4, cT4, rfl⟩ := oo.shape
    have hsW25 := b.size
    unfold coreV
    have hz_W25 := Below.size b
    have RP := hide (show W25.heap[w.heap.size]? = some (.cells #[.string a0.kind, .bool a0.on, .bool a0.broken, s0, .int .i64 a0.count] 24 (0, 0) : Obj) from row_on b RP.out)
    have RQ6 := hide (show W25.heap[W6.heap.size]? = some (.cells #[.string k1, .bool o1, .bool b1, .slice AC6 l1.length cC6, .int .i64 n1] 31 (0, 0) : Obj) from row_on b RQ6.out)
    have RQ8 := hide (show W25.heap[W8.heap.size]? = some (.cells #[.string a0.kind, .bool a0.on, .bool a0.broken, .slice AX8 a0.cells.length cX8, .int .i64 a0.count] 31 (0, 0) : Obj) from row_on b RQ8.out)
    have RQ10 := hide (show W25.heap[W11.heap.size]? = some (.cells #[.string k1, .bool o1, .bool b1, .slice AC10 l1.length cC10, .int .i64 n1] 31 (0, 0) : Obj) from row_on b RQ10.out)
    have OC6 := hide (show OwnL W25 W5.heap.size 63 2 cellEn (.slice AC6 l1.length cC6) (l1) from OwnL.below OC6.out b (Nat.le_refl _))
    have OR7 := hide (show OwnL W25 W5.heap.size 33 5 replyEn (.slice AR7 rs.length cR7) (rs) from OwnL.below OR7.out b (Nat.le_refl _))
    have OC10 := hide (show OwnL W25 W10.heap.size 63 2 cellEn (.slice AC10 l1.length cC10) (Pu.gen (Pu.gC 1) l1.length) from OwnL.below OC10.out b (Nat.le_refl _))
    have OR11 := hide (show OwnL W25 W10.heap.size 33 5 replyEn (.slice AR11 rs.length cR11) (Pu.gen (Pu.gR (1 + 2 * (l1.length : Int))) rs.length) from OwnL.below OR11.out b (Nat.le_refl _))
    have BW := below_then BW b
    have OT4 := hide oo
    clear oo
    obtain ⟨_, _, _, _, _, _⟩ := five_cells RP.out
    obtain ⟨_, _, _, _, _, _⟩ := five_cells RQ6.out
    obtain ⟨_, _, _, _, _, _⟩ := five_cells RQ8.out
    obtain ⟨_, _, _, _, _, _⟩ := five_cells RQ10.out
    go_wp2_with fail
    refine (toCallS_c _ a1 _ (RdL.below V1.out BW (Nat.le_refl _)) hl1).mono ?_; rintro e W26 ⟨sT5, rfl, oo, b⟩
    obtain ⟨AT5, cT5, rfl⟩ := oo.shape
    have hsW26 := b.size
    have hz_W26 := Below.size b
    have RP := hide (show W26.heap[w.heap.size]? = some (.cells #[.string a0.kind, .bool a0.on, .bool a0.broken, s0, .int .i64 a0.count] 24 (0, 0) : Obj) from row_on b RP.out)
    have RQ6 := hide (show W26.heap[W6.heap.size]? = some (.cells #[.string k1, .bool o1, .bool b1, .slice AC6 l1.length cC6, .int .i64 n1] 31 (0, 0) : Obj) from row_on b RQ6.out)
    have RQ8 := hide (show W26.heap[W8.heap.size]? = some (.cells #[.string a0.kind, .bool a0.on, .bool a0.broken, .slice AX8 a0.cells.length cX8, .int .i64 a0.count] 31 (0, 0) : Obj) from row_on b RQ8.out)
    have RQ10 := hide (show W26.heap[W11.heap.size]? = some (.cells #[.string k1, .bool o1, .bool b1, .slice AC10 l1.length cC10, .int .i64 n1] 31 (0, 0) : Obj) from row_on b RQ10.out)
    have OC6 := hide (show OwnL W26 W5.heap.size 63 2 cellEn (.slice AC6 l1.length cC6) (l1) from OwnL.below OC6.out b (Nat.le_refl _))
    have OR7 := hide (show OwnL W26 W5.heap.size 33 5 replyEn (.slice AR7 rs.length cR7) (rs) from OwnL.below OR7.out b (Nat.le_refl _))
    have OC10 := hide (show OwnL W26 W10.heap.size 63 2 cellEn (.slice AC10 l1.length cC10) (Pu.gen (Pu.gC 1) l1.length) from OwnL.below OC10.out b (Nat.le_refl _))
    have OR11 := hide (show OwnL W26 W10.heap.size 33 5 replyEn (.slice AR11 rs.length cR11) (Pu.gen (Pu.gR (1 + 2 * (l1.length : Int))) rs.length) from OwnL.below OR11.out b (Nat.le_refl _))
    have OT4 := hide (show OwnL W26 W24.heap.size 63 2 cellEn (.slice AT4 a0.cells.length cT4) (a0.cells) from OwnL.below OT4.out b (Nat.le_refl _))
    have BW := below_then BW b
    have OT5 := hide oo
    clear oo
    obtain ⟨_, _, _, _, _, _⟩ := five_cells RP.out
    obtain ⟨_, _, _, _, _, _⟩ := five_cells RQ6.out
    obtain ⟨_, _, _, _, _, _⟩ := five_cells RQ8.out
    obtain ⟨_, _, _, _, _, _⟩ := five_cells RQ10.out
    go_wp2_with fail
    refine (iCallCores_c a0 _ _ a1 _ (HM.out.below BW hlM) (HT.out.below BW hlT) (HE.out.below BW hlE) WF0.out ⟨OT4.out.rd (fun _ => rfl), Z0.out⟩ hln (OT5.out.rd (fun _ => rfl)) HX.out hl1).mono ?_; rintro e W27 ⟨sC15, sR16, rfl, oo, oq, b⟩
    rw [HR.out] at oo oq ⊢
    dsimp only at oo oq
    obtain ⟨AC15, cC15, rfl⟩ := oo.shape
    obtain ⟨AR16, cR16, rfl⟩ := oq.shape
    have hsW27 := b.size
    unfold coreV
    dsimp only
    have hz_W27 := Below.size b
    have RP := hide (show W27.heap[w.heap.size]? = some (.cells #[.string a0.kind, .bool a0.on, .bool a0.broken, s0, .int .i64 a0.count] 24 (0, 0) : Obj) from row_on b RP.out)
    have RQ6 := hide (show W27.heap[W6.heap.size]? = some (.cells #[.string k1, .bool o1, .bool b1, .slice AC6 l1.length cC6, .int .i64 n1] 31 (0, 0) : Obj) from row_on b RQ6.out)
    have RQ8 := hide (show W27.heap[W8.heap.size]? = some (.cells #[.string a0.kind, .bool a0.on, .bool a0.broken, .slice AX8 a0.cells.length cX8, .int .i64 a0.count] 31 (0, 0) : Obj) from row_on b RQ8.out)
    have RQ10 := hide (show W27.heap[W11.heap.size]? = some (.cells #[.string k1, .bool o1, .bool b1, .slice AC10 l1.length cC10, .int .i64 n1] 31 (0, 0) : Obj) from row_on b RQ10.out)
    have OC6 := hide (show OwnL W27 W5.heap.size 63 2 cellEn (.slice AC6 l1.length cC6) (l1) from OwnL.below OC6.out b (Nat.le_refl _))
    have OR7 := hide (show OwnL W27 W5.heap.size 33 5 replyEn (.slice AR7 rs.length cR7) (rs) from OwnL.below OR7.out b (Nat.le_refl _))
    have OC10 := hide (show OwnL W27 W10.heap.size 63 2 cellEn (.slice AC10 l1.length cC10) (Pu.gen (Pu.gC 1) l1.length) from OwnL.below OC10.out b (Nat.le_refl _))
    have OR11 := hide (show OwnL W27 W10.heap.size 33 5 replyEn (.slice AR11 rs.length cR11) (Pu.gen (Pu.gR (1 + 2 * (l1.length : Int))) rs.length) from OwnL.below OR11.out b (Nat.le_refl _))
    have OT4 := hide (show OwnL W27 W24.heap.size 63 2 cellEn (.slice AT4 a0.cells.length cT4) (a0.cells) from OwnL.below OT4.out b (Nat.le_refl _))
    have OT5 := hide (show OwnL W27 W25.heap.size 37 4 callEn (.slice AT5 a1.length cT5) (a1) from OwnL.below OT5.out b (Nat.le_refl _))
    have BW := below_then BW b
    have OC15 := hide oo
    have OR16 := hide oq
    clear oo oq
    obtain ⟨W28, hW28⟩ : ∃ W, Hid ((W27.alloc (.cells #[.string k1, .bool o1, .bool b1, .slice AC15 l1.length cC15, .int .i64 n1] 31 : Obj)) = W) := ⟨_, rfl⟩
    have b : Below W27.heap.size W27 W28 := by rw [← hW28.out]; exact below_alloc (Below.refl _ _) _
    have hsW28 := b.size
    have hz_W28 := Below.size b
    have RP := hide (show W28.heap[w.heap.size]? = some (.cells #[.string a0.kind, .bool a0.on, .bool a0.broken, s0, .int .i64 a0.count] 24 (0, 0) : Obj) from row_on b RP.out)
    have RQ6 := hide (show W28.heap[W6.heap.size]? = some (.cells #[.string k1, .bool o1, .bool b1, .slice AC6 l1.length cC6, .int .i64 n1] 31 (0, 0) : Obj) from row_on b RQ6.out)
    have RQ8 := hide (show W28.heap[W8.heap.size]? = some (.cells #[.string a0.kind, .bool a0.on, .bool a0.broken, .slice AX8 a0.cells.length cX8, .int .i64 a0.count] 31 (0, 0) : Obj) from row_on b RQ8.out)
    have RQ10 := hide (show W28.heap[W11.heap.size]? = some (.cells #[.string k1, .bool o1, .bool b1, .slice AC10 l1.length cC10, .int .i64 n1] 31 (0, 0) : Obj) from row_on b RQ10.out)
    have OC6 := hide (show OwnL W28 W5.heap.size 63 2 cellEn (.slice AC6 l1.length cC6) (l1) from OwnL.below OC6.out b (Nat.le_refl _))
    have OR7 := hide (show OwnL W28 W5.heap.size 33 5 replyEn (.slice AR7 rs.length cR7) (rs) from OwnL.below OR7.out b (Nat.le_refl _))
    have OC10 := hide (show OwnL W28 W10.heap.size 63 2 cellEn (.slice AC10 l1.length cC10) (Pu.gen (Pu.gC 1) l1.length) from OwnL.below OC10.out b (Nat.le_refl _))
    have OR11 := hide (show OwnL W28 W10.heap.size 33 5 replyEn (.slice AR11 rs.length cR11) (Pu.gen (Pu.gR (1 + 2 * (l1.length : Int))) rs.length) from OwnL.below OR11.out b (Nat.le_refl _))
    have OT4 := hide (show OwnL W28 W24.heap.size 63 2 cellEn (.slice AT4 a0.cells.length cT4) (a0.cells) from OwnL.below OT4.out b (Nat.le_refl _))
    have OT5 := hide (show OwnL W28 W25.heap.size 37 4 callEn (.slice AT5 a1.length cT5) (a1) from OwnL.below OT5.out b (Nat.le_refl _))
    have OC15 := hide (show OwnL W28 W26.heap.size 63 2 cellEn (.slice AC15 l1.length cC15) (l1) from OwnL.below OC15.out b (Nat.le_refl _))
    have OR16 := hide (show OwnL W28 W26.heap.size 33 5 replyEn (.slice AR16 rs.length cR16) (rs) from OwnL.below OR16.out b (Nat.le_refl _))
    have BW := below_then BW b
    have RQ15 := hide (show W28.heap[W27.heap.size]? = some (.cells #[.string k1, .bool o1, .bool b1, .slice AC15 l1.length cC15, .int .i64 n1] 31 (0, 0) : Obj) by rw [← hW28.out]; exact heap_new rfl)
    have EP := hide (show (W27.alloc (.cells #[.string k1, .bool o1, .bool b1, .slice AC15 l1.length cC15, .int .i64 n1] 31 : Obj)).heap[w.heap.size]? = some (.cells #[.string a0.kind, .bool a0.on, .bool a0.broken, s0, .int .i64 a0.count] 24 (0, 0) : Obj) by rw [hW28.out]; exact RP.out)
    have EQ6 := hide (show (W27.alloc (.cells #[.string k1, .bool o1, .bool b1, .slice AC15 l1.length cC15, .int .i64 n1] 31 : Obj)).heap[W6.heap.size]? = some (.cells #[.string k1, .bool o1, .bool b1, .slice AC6 l1.length cC6, .int .i64 n1] 31 (0, 0) : Obj) by rw [hW28.out]; exact RQ6.out)
    have EQ8 := hide (show (W27.alloc (.cells #[.string k1, .bool o1, .bool b1, .slice AC15 l1.length cC15, .int .i64 n1] 31 : Obj)).heap[W8.heap.size]? = some (.cells #[.string a0.kind, .bool a0.on, .bool a0.broken, .slice AX8 a0.cells.length cX8, .int .i64 a0.count] 31 (0, 0) : Obj) by rw [hW28.out]; exact RQ8.out)
    have EQ10 := hide (show (W27.alloc (.cells #[.string k1, .bool o1, .bool b1, .slice AC15 l1.length cC15, .int .i64 n1] 31 : Obj)).heap[W11.heap.size]? = some (.cells #[.string k1, .bool o1, .bool b1, .slice AC10 l1.length cC10, .int .i64 n1] 31 (0, 0) : Obj) by rw [hW28.out]; exact RQ10.out)
    have EQ15 := hide (show (W27.alloc (.cells #[.string k1, .bool o1, .bool b1, .slice AC15 l1.length cC15, .int .i64 n1] 31 : Obj)).heap[W27.heap.size]? = some (.cells #[.string k1, .bool o1, .bool b1, .slice AC15 l1.length cC15, .int .i64 n1] 31 (0, 0) : Obj) by rw [hW28.out]; exact RQ15.out)
    obtain ⟨_, _, _, _, _, _⟩ := five_cells EP.out
    obtain ⟨_, _, _, _, _, _⟩ := five_cells EQ6.out
    obtain ⟨_, _, _, _, _, _⟩ := five_cells EQ8.out
    obtain ⟨_, _, _, _, _, _⟩ := five_cells EQ10.out
    obtain ⟨_, _, _, _, _, _⟩ := five_cells EQ15.out
    obtain ⟨_, _, _, _, _, _⟩ := five_cells RP.out
    obtain ⟨_, _, _, _, _, _⟩ := five_cells RQ6.out
    obtain ⟨_, _, _, _, _, _⟩ := five_cells RQ8.out
    obtain ⟨_, _, _, _, _, _⟩ := five_cells RQ10.out
    obtain ⟨_, _, _, _, _, _⟩ := five_cells RQ15.out
    go_wp2_with fail
    rw [hW28.out]
    refine (eqCore_c ⟨k1, o1, b1, l1, n1⟩ ⟨k1, o1, b1, l1, n1⟩ _ _ _ rfl (OC15.out.rd (fun _ => rfl)) (OC6.out.rd (fun _ => rfl))).mono ?_; rintro e W29 ⟨rfl, b⟩
    have hz_W29 := Below.size b
    have RP := hide (show W29.heap[w.heap.size]? = some (.cells #[.string a0.kind, .bool a0.on, .bool a0.broken, s0, .int .i64 a0.count] 24 (0, 0) : Obj) from row_on b RP.out)
    have RQ6 := hide (show W29.heap[W6.heap.size]? = some (.cells #[.string k1, .bool o1, .bool b1, .slice AC6 l1.length cC6, .int .i64 n1] 31 (0, 0) : Obj) from row_on b RQ6.out)
    have RQ8 := hide (show W29.heap[W8.heap.size]? = some (.cells #[.string a0.kind, .bool a0.on, .bool a0.broken, .slice AX8 a0.cells.length cX8, .int .i64 a0.count] 31 (0, 0) : Obj) from row_on b RQ8.out)
    have RQ10 := hide (show W29.heap[W11.heap.size]? = some (.cells #[.string k1, .bool o1, .bool b1, .slice AC10 l1.length cC10, .int .i64 n1] 31 (0, 0) : Obj) from row_on b RQ10.out)
    have RQ15 := hide (show W29.heap[W27.heap.size]? = some (.cells #[.string k1, .bool o1, .bool b1, .slice AC15 l1.length cC15, .int .i64 n1] 31 (0, 0) : Obj) from row_on b RQ15.out)
    have OC6 := hide (show OwnL W29 W5.heap.size 63 2 cellEn (.slice AC6 l1.length cC6) (l1) from OwnL.below OC6.out b (Nat.le_refl _))
    have OR7 := hide (show OwnL W29 W5.heap.size 33 5 replyEn (.slice AR7 rs.length cR7) (rs) from OwnL.below OR7.out b (Nat.le_refl _))
    have OC10 := hide (show OwnL W29 W10.heap.size 63 2 cellEn (.slice AC10 l1.length cC10) (Pu.gen (Pu.gC 1) l1.length) from OwnL.below OC10.out b (Nat.le_refl _))
    have OR11 := hide (show OwnL W29 W10.heap.size 33 5 replyEn (.slice AR11 rs.length cR11) (Pu.gen (Pu.gR (1 + 2 * (l1.length : Int))) rs.length) from OwnL.below OR11.out b (Nat.le_refl _))
    have OT4 := hide (show OwnL W29 W24.heap.size 63 2 cellEn (.slice AT4 a0.cells.length cT4) (a0.cells) from OwnL.below OT4.out b (Nat.le_refl _))
    have OT5 := hide (show OwnL W29 W25.heap.size 37 4 callEn (.slice AT5 a1.length cT5) (a1) from OwnL.below OT5.out b (Nat.le_refl _))
    have OC15 := hide (show OwnL W29 W26.heap.size 63 2 cellEn (.slice AC15 l1.length cC15) (l1) from OwnL.below OC15.out b (Nat.le_refl _))
    have OR16 := hide (show OwnL W29 W26.heap.size 33 5 replyEn (.slice AR16 rs.length cR16) (rs) from OwnL.below OR16.out b (Nat.le_refl _))
    have BW := below_then BW b
    obtain ⟨_, _, _, _, _, _⟩ := five_cells RP.out
    obtain ⟨_, _, _, _, _, _⟩ := five_cells RQ6.out
    obtain ⟨_, _, _, _, _, _⟩ := five_cells RQ8.out
    obtain ⟨_, _, _, _, _, _⟩ := five_cells RQ10.out
    obtain ⟨_, _, _, _, _, _⟩ := five_cells RQ15.out
    go_wp2_with fail
    refine (eqReplyS_c _ _ rs _ (OR16.out.rd (fun _ => rfl)) (OR7.out.rd (fun _ => rfl))).mono ?_; rintro e W30 ⟨rfl, b⟩
    have hz_W30 := Below.size b
    have RP := hide (show W30.heap[w.heap.size]? = some (.cells #[.string a0.kind, .bool a0.on, .bool a0.broken, s0, .int .i64 a0.count] 24 (0, 0) : Obj) from row_on b RP.out)
    have RQ6 := hide (show W30.heap[W6.heap.size]? = some (.cells #[.string k1, .bool o1, .bool b1, .slice AC6 l1.length cC6, .int .i64 n1] 31 (0, 0) : Obj) from row_on b RQ6.out)
    have RQ8 := hide (show W30.heap[W8.heap.size]? = some (.cells #[.string a0.kind, .bool a0.on, .bool a0.broken, .slice AX8 a0.cells.length cX8, .int .i64 a0.count] 31 (0, 0) : Obj) from row_on b RQ8.out)
    have RQ10 := hide (show W30.heap[W11.heap.size]? = some (.cells #[.string k1, .bool o1, .bool b1, .slice AC10 l1.length cC10, .int .i64 n1] 31 (0, 0) : Obj) from row_on b RQ10.out)
    have RQ15 := hide (show W30.heap[W27.heap.size]? = some (.cells #[.string k1, .bool o1, .bool b1, .slice AC15 l1.length cC15, .int .i64 n1] 31 (0, 0) : Obj) from row_on b RQ15.out)
    have OC6 := hide (show OwnL W30 W5.heap.size 63 2 cellEn (.slice AC6 l1.length cC6) (l1) from OwnL.below OC6.out b (Nat.le_refl _))
    have OR7 := hide (show OwnL W30 W5.heap.size 33 5 replyEn (.slice AR7 rs.length cR7) (rs) from OwnL.below OR7.out b (Nat.le_refl _))
    have OC10 := hide (show OwnL W30 W10.heap.size 63 2 cellEn (.slice AC10 l1.length cC10) (Pu.gen (Pu.gC 1) l1.length) from OwnL.below OC10.out b (Nat.le_refl _))
    have OR11 := hide (show OwnL W30 W10.heap.size 33 5 replyEn (.slice AR11 rs.length cR11) (Pu.gen (Pu.gR (1 + 2 * (l1.length : Int))) rs.length) from OwnL.below OR11.out b (Nat.le_refl _))
    have OT4 := hide (show OwnL W30 W24.heap.size 63 2 cellEn (.slice AT4 a0.cells.length cT4) (a0.cells) from OwnL.below OT4.out b (Nat.le_refl _))
    have OT5 := hide (show OwnL W30 W25.heap.size 37 4 callEn (.slice AT5 a1.length cT5) (a1) from OwnL.below OT5.out b (Nat.le_refl _))
    have OC15 := hide (show OwnL W30 W26.heap.size 63 2 cellEn (.slice AC15 l1.length cC15) (l1) from OwnL.below OC15.out b (Nat.le_refl _))
    have OR16 := hide (show OwnL W30 W26.heap.size 33 5 replyEn (.slice AR16 rs.length cR16) (rs) from OwnL.below OR16.out b (Nat.le_refl _))
    have BW := below_then BW b
    obtain ⟨_, _, _, _, _, _⟩ := five_cells RP.out
    obtain ⟨_, _, _, _, _, _⟩ := five_cells RQ6.out
    obtain ⟨_, _, _, _, _, _⟩ := five_cells RQ8.out
    obtain ⟨_, _, _, _, _, _⟩ := five_cells RQ10.out
    obtain ⟨_, _, _, _, _, _⟩ := five_cells RQ15.out
    go_wp2_with fail
    refine (heldCore_c ⟨k1, o1, b1, l1, n1⟩ _ _ 1 _ (OC10.out.rd (fun _ => rfl)) (by omega) (by omega) (by omega)).mono ?_; rintro e W31 ⟨rfl, b⟩
    have hz_W31 := Below.size b
    have RP := hide (show W31.heap[w.heap.size]? = some (.cells #[.string a0.kind, .bool a0.on, .bool a0.broken, s0, .int .i64 a0.count] 24 (0, 0) : Obj) from row_on b RP.out)
    have RQ6 := hide (show W31.heap[W6.heap.size]? = some (.cells #[.string k1, .bool o1, .bool b1, .slice AC6 l1.length cC6, .int .i64 n1] 31 (0, 0) : Obj) from row_on b RQ6.out)
    have RQ8 := hide (show W31.heap[W8.heap.size]? = some (.cells #[.string a0.kind, .bool a0.on, .bool a0.broken, .slice AX8 a0.cells.length cX8, .int .i64 a0.count] 31 (0, 0) : Obj) from row_on b RQ8.out)
    have RQ10 := hide (show W31.heap[W11.heap.size]? = some (.cells #[.string k1, .bool o1, .bool b1, .slice AC10 l1.length cC10, .int .i64 n1] 31 (0, 0) : Obj) from row_on b RQ10.out)
    have RQ15 := hide (show W31.heap[W27.heap.size]? = some (.cells #[.string k1, .bool o1, .bool b1, .slice AC15 l1.length cC15, .int .i64 n1] 31 (0, 0) : Obj) from row_on b RQ15.out)
    have OC6 := hide (show OwnL W31 W5.heap.size 63 2 cellEn (.slice AC6 l1.length cC6) (l1) from OwnL.below OC6.out b (Nat.le_refl _))
    have OR7 := hide (show OwnL W31 W5.heap.size 33 5 replyEn (.slice AR7 rs.length cR7) (rs) from OwnL.below OR7.out b (Nat.le_refl _))
    have OC10 := hide (show OwnL W31 W10.heap.size 63 2 cellEn (.slice AC10 l1.length cC10) (Pu.gen (Pu.gC 1) l1.length) from OwnL.below OC10.out b (Nat.le_refl _))
    have OR11 := hide (show OwnL W31 W10.heap.size 33 5 replyEn (.slice AR11 rs.length cR11) (Pu.gen (Pu.gR (1 + 2 * (l1.length : Int))) rs.length) from OwnL.below OR11.out b (Nat.le_refl _))
    have OT4 := hide (show OwnL W31 W24.heap.size 63 2 cellEn (.slice AT4 a0.cells.length cT4) (a0.cells) from OwnL.below OT4.out b (Nat.le_refl _))
    have OT5 := hide (show OwnL W31 W25.heap.size 37 4 callEn (.slice AT5 a1.length cT5) (a1) from OwnL.below OT5.out b (Nat.le_refl _))
    have OC15 := hide (show OwnL W31 W26.heap.size 63 2 cellEn (.slice AC15 l1.length cC15) (l1) from OwnL.below OC15.out b (Nat.le_refl _))
    have OR16 := hide (show OwnL W31 W26.heap.size 33 5 replyEn (.slice AR16 rs.length cR16) (rs) from OwnL.below OR16.out b (Nat.le_refl _))
    have BW := below_then BW b
    obtain ⟨_, _, _, _, _, _⟩ := five_cells RP.out
    obtain ⟨_, _, _, _, _, _⟩ := five_cells RQ6.out
    obtain ⟨_, _, _, _, _, _⟩ := five_cells RQ8.out
    obtain ⟨_, _, _, _, _, _⟩ := five_cells RQ10.out
    obtain ⟨_, _, _, _, _, _⟩ := five_cells RQ15.out
    go_wp2_with fail
    refine (heldReplyS_c _ _ (1 + 2 * (l1.length : Int)) _ (OR11.out.rd (fun _ => rfl)) (by omega) (by omega) (by omega)).mono ?_; rintro e W32 ⟨rfl, b⟩
    have hz_W32 := Below.size b
    have RP := hide (show W32.heap[w.heap.size]? = some (.cells #[.string a0.kind, .bool a0.on, .bool a0.broken, s0, .int .i64 a0.count] 24 (0, 0) : Obj) from row_on b RP.out)
    have RQ6 := hide (show W32.heap[W6.heap.size]? = some (.cells #[.string k1, .bool o1, .bool b1, .slice AC6 l1.length cC6, .int .i64 n1] 31 (0, 0) : Obj) from row_on b RQ6.out)
    have RQ8 := hide (show W32.heap[W8.heap.size]? = some (.cells #[.string a0.kind, .bool a0.on, .bool a0.broken, .slice AX8 a0.cells.length cX8, .int .i64 a0.count] 31 (0, 0) : Obj) from row_on b RQ8.out)
    have RQ10 := hide (show W32.heap[W11.heap.size]? = some (.cells #[.string k1, .bool o1, .bool b1, .slice AC10 l1.length cC10, .int .i64 n1] 31 (0, 0) : Obj) from row_on b RQ10.out)
    have RQ15 := hide (show W32.heap[W27.heap.size]? = some (.cells #[.string k1, .bool o1, .bool b1, .slice AC15 l1.length cC15, .int .i64 n1] 31 (0, 0) : Obj) from row_on b RQ15.out)
    have OC6 := hide (show OwnL W32 W5.heap.size 63 2 cellEn (.slice AC6 l1.length cC6) (l1) from OwnL.below OC6.out b (Nat.le_refl _))
    have OR7 := hide (show OwnL W32 W5.heap.size 33 5 replyEn (.slice AR7 rs.length cR7) (rs) from OwnL.below OR7.out b (Nat.le_refl _))
    have OC10 := hide (show OwnL W32 W10.heap.size 63 2 cellEn (.slice AC10 l1.length cC10) (Pu.gen (Pu.gC 1) l1.length) from OwnL.below OC10.out b (Nat.le_refl _))
    have OR11 := hide (show OwnL W32 W10.heap.size 33 5 replyEn (.slice AR11 rs.length cR11) (Pu.gen (Pu.gR (1 + 2 * (l1.length : Int))) rs.length) from OwnL.below OR11.out b (Nat.le_refl _))
    have OT4 := hide (show OwnL W32 W24.heap.size 63 2 cellEn (.slice AT4 a0.cells.length cT4) (a0.cells) from OwnL.below OT4.out b (Nat.le_refl _))
    have OT5 := hide (show OwnL W32 W25.heap.size 37 4 callEn (.slice AT5 a1.length cT5) (a1) from OwnL.below OT5.out b (Nat.le_refl _))
    have OC15 := hide (show OwnL W32 W26.heap.size 63 2 cellEn (.slice AC15 l1.length cC15) (l1) from OwnL.below OC15.out b (Nat.le_refl _))
    have OR16 := hide (show OwnL W32 W26.heap.size 33 5 replyEn (.slice AR16 rs.length cR16) (rs) from OwnL.below OR16.out b (Nat.le_refl _))
    have BW := below_then BW b
    obtain ⟨_, _, _, _, _, _⟩ := five_cells RP.out
    obtain ⟨_, _, _, _, _, _⟩ := five_cells RQ6.out
    obtain ⟨_, _, _, _, _, _⟩ := five_cells RQ8.out
    obtain ⟨_, _, _, _, _, _⟩ := five_cells RQ10.out
    obtain ⟨_, _, _, _, _, _⟩ := five_cells RQ15.out
    go_wp2
    go_ret
    exact ⟨rfl, BW⟩
  · have hsz : Hid (Pu.szCore a0 1048576 = -1) := by rw [Hid, Pu.szCore, if_neg hs]
    unfold coreV
    go_enter Tryz.func4, Tryz.ntmps4
    have BW : Below w.heap.size w w := Below.refl _ _
    obtain ⟨W1, hW1⟩ : ∃ W, Hid ((w.alloc (.cells #[.string a0.kind, .bool a0.on, .bool a0.broken, s0, .int .i64 a0.count] 24 : Obj)) = W) := ⟨_, rfl⟩
    have b : Below w.heap.size w W1 := by rw [← hW1.out]; exact below_alloc (Below.refl _ _) _
    have hsW1 := b.size
    have hz_W1 := Below.size b
    have BW := below_then BW b
    have RP := hide (show W1.heap[w.heap.size]? = some (.cells #[.string a0.kind, .bool a0.on, .bool a0.broken, s0, .int .i64 a0.count] 24 (0, 0) : Obj) by rw [← hW1.out]; exact heap_new rfl)
    have EP := hide (show (w.alloc (.cells #[.string a0.kind, .bool a0.on, .bool a0.broken, s0, .int .i64 a0.count] 24 : Obj)).heap[w.heap.size]? = some (.cells #[.string a0.kind, .bool a0.on, .bool a0.broken, s0, .int .i64 a0.count] 24 (0, 0) : Obj) by rw [hW1.out]; exact RP.out)
    obtain ⟨_, _, _, _, _, _⟩ := five_cells EP.out
    obtain ⟨_, _, _, _, _, _⟩ := five_cells RP.out
    go_wp2_with fail
    rw [hW1.out]
    refine (szCore_c a0 s0 1048576 _ WF0.out (RdCells.below ⟨r0, Z0.out⟩ BW) (by omega) (by omega)).mono ?_; rintro e W2 ⟨rfl, b⟩
    rw [hsz.out]
    have hz_W2 := Below.size b
    have RP := hide (show W2.heap[w.heap.size]? = some (.cells #[.string a0.kind, .bool a0.on, .bool a0.broken, s0, .int .i64 a0.count] 24 (0, 0) : Obj) from row_on b RP.out)
    have BW := below_then BW b
    obtain ⟨_, _, _, _, _, _⟩ := five_cells RP.out
    go_wp2
    go_ret
    exact ⟨rfl, BW⟩

/-- The laid heap meets the condition. -/
theorem door_met (os : Os) (args : Array Value) : laidMetH Tryz.prog Rows.fnExactCallCoresRow.laid ((World.laidAll Tryz.prog os Rows.fnExactCallCoresRow.laid).forCall (fun _ _ => 0) ⟨#[], args, []⟩).memory := by
  rw [MakeChecks.laidMetH_plain _ _ _ (by kernel_rfl)]
  exact laidMet_laidAll _ (by kernel_rfl) (by kernel_rfl)

set_option maxRecDepth 100000 in
theorem lifted (os : Os) (started : os.Started) (H : Type) (enc : TypeId × Value → H) :
    ReturnsInHanded {} Tryz.checked os 4 .any (fun w args => (Rows.fnExactCallCoresSpec.pre enc Tryz.prog Tryz.f4 [] false w args ∧ laidMetH Tryz.prog Rows.fnExactCallCoresRow.laid w) ∧ sizedMet enc Tryz.prog Tryz.f4 (OpenSpec.ofChange Rows.fnExactCallCoresSpec) false w args) (Rows.fnExactCallCoresSpec.post enc Tryz.prog Tryz.f4 false true false false) := by
  refine wrapV (C := Tryz.checked) (X := fun w _ => laidMetH Tryz.prog Rows.fnExactCallCoresRow.laid w) (fun _ _ _ hh h => h.of_heap hh) own started (by kernel_rfl) Tryz.func4
    (ChangeSpec.witness_shaped (enc := enc) (C := Tryz.checked) (os := os) (X := fun w _ => laidMetH Tryz.prog Rows.fnExactCallCoresRow.laid w) false (World.laidAll Tryz.prog os Rows.fnExactCallCoresRow.laid) #[.agg #[.string ByteArray.empty, .bool false, .bool false, .slice none 0 0, .int .i64 0], .slice none 0 0] 8 (World.laidAll_os _ _ _) (World.shaped_of_ZipB (by kernel_rfl) (by kernel_rfl)) (by kernel_rfl) (by kernel_rfl) (by kernel_rfl) (door_met os _)) ?_
  intro W base args ds gs before hval0 hW hL hS
  have hval : ∀ (j : Nat) t v, Tryz.f4.params[j]? = some t → args[j]? = some v → Value.okWide Tryz.prog W .any base t v := hval0
  have hW' := hW
  obtain ⟨p, q, hA0, hV, rfl, hfz, hnd⟩ := hW
  have hA : DataW.TrodAll enc Tryz.prog W 0 (fun _ => true) true Tryz.f4.params.toList args.toList ds p := hA0
  rw [Tryz.params4] at hA hval
  obtain ⟨v0, vs0, d0, ds0, p0, q0, hargs, rfl, rfl, h0, r0⟩ := trodAll_cons hA
  obtain ⟨v1, vs1, d1, ds1, p1, q1, rfl, rfl, rfl, h1, r1⟩ := trodAll_cons r0
  obtain ⟨rfl, rfl, rfl⟩ := trodAll_nil r1
  obtain rfl : args = #[v0, v1] := by cases args; simp_all
  obtain ⟨rfl, rfl⟩ := trodVars_none hV
  obtain ⟨a0, hv0⟩ := open_core (hval 0 24 v0 rfl rfl) h0
  obtain ⟨a1, hv1⟩ := open_calls (hval 1 43 v1 rfl rfl) h1
  refine (walk W (pow10_of (met_reads hL (by kernel_rfl) (.tail _ (.tail _ (.head _))))) (errsyn_of (met_reads hL (by kernel_rfl) (.tail _ (.tail _ (.tail _ (.tail _ (.tail _ (.head _)))))))) (maxc_of hS) v0 a0 hv0 v1 a1 hv1).mono fun e W' ⟨he, hg⟩ => ?_
  subst he
  exact ⟨_, rfl, law_postV (tb := 4) (by kernel_rfl) (by kernel_rfl) (by kernel_rfl) hW' hg rfl Tryz.underlying4 rfl rfl rfl⟩

theorem over : Rows.FnExactCallCoresSaid :=
  OpenClaim.holds_of_wide 4 Tryz.f4 rfl rfl rfl rfl rfl rfl rfl ⟨rfl, rfl, rfl, rfl, rfl⟩ rfl rfl rfl rfl rfl (by kernel_rfl) Tryz.func4 (by kernel_rfl)
    (of_decide_eq_true (by kernel_rfl)) (by unfold Func.isWrapper; first | (rw [if_pos (by decide +kernel)]; kernel_rfl) | (rw [if_neg (by decide +kernel)]; exact ⟨rfl, rfl⟩))
    (fun os started H enc _ => lifted os started H enc)

/-- The statement: the tied card. -/
theorem proved : Rows.FnExactCallCoresCardSaid :=
  Claim7.holds_tied_plain_at .later [] [.data, .data, .data, .data, .sentinel, .sentinel, .pinned] true (true, "15f444c23c93b2403839749698f01a757c47729f86feb889b0929fa11f9b21ff") true over (fun _ h => by cases h) (by kernel_rfl) (fun _ h => by cases h) fnExactCallCores_row_tie rfl ⟨rfl, rfl⟩ (by kernel_rfl) rfl
    (fun f fn hf hfn => by
      obtain rfl : 4 = f := Option.some.inj ((show Tryz.prog.funcNamed Rows.fnExactCallCoresRow.func = some 4 by kernel_rfl).symm.trans hf)
      obtain rfl : Tryz.f4 = fn := Option.some.inj (Tryz.func4.symm.trans hfn)
      exact ⟨by kernel_rfl, fun j t ht => by
        rw [Tryz.params4] at ht
        have hm : t ∈ [24, 43] := by simpa using Array.mem_of_getElem? ht
        have hall : ([24, 43].all fun u => !Tryz.prog.wantsStandIn u) = true := by kernel_rfl
        exact (show Tryz.prog.wantsStandIn t = false by simpa using List.all_eq_true.1 hall t hm)⟩)
    (by kernel_rfl)
#print axioms proved
end Go.Proofs.YtllmcnmongaahaaGreatDoor.fnExactCallCores
