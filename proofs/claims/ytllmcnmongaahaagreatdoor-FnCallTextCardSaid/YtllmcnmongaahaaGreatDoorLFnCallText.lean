/- FnCallText: for every input the law returns true, and its arguments read afterwards as they read before. No condition besides those of the statement itself. -/
import Derived.Test.YtllmcnmongaahaaGreatDoorM0
import Derived.Test.YtllmcnmongaahaaGreatDoorCards
import Derived.Test.YtllmcnmongaahaaGreatDoorTie
import Derived.LaidMore
import Derived.SevenTiedAt
import Derived.Stop.Joined
import Derived.Lay
import Derived.Test.YtllmcnmongaahaaGreatDoorM1
import Derived.Test.YtllmcnmongaahaaGreatDoorM3
import Derived.Test.YtllmcnmongaahaaGreatDoorPCells
import Derived.Test.YtllmcnmongaahaaGreatDoorPCall
import Derived.ShutString
namespace Go.Proofs.YtllmcnmongaahaaGreatDoor.fnCallText
open Go.ChangeShapes Go.WideShapes Go.ChangeAt Go.RowKit
set_option maxRecDepth 100000
open Go.ChangeMaps (open_string shut_string)
set_option linter.unusedVariables false

theorem own : ownKnob Tryz.prog.godebug = none := by kernel_rfl

set_option maxHeartbeats 8000000 in
/-- The walk: the Go text returns true. -/
theorem walk (w : World) (hT : Pow10 w) (hE : ErrSyn w) (hM : MaxC w) (v0 : Value) (a0 : List UInt8) (hv0 : RdL w 1 byteEn v0 a0) :
    Calls Tryz.prog 5 #[v0] w fun e w' => e = .returned (.bool true) ∧ Below w.heap.size w w' := by
  have hlM := hM.lt
  have hlT := hT.lt
  have hlE := hE.lt
  have HM := hide hM
  have HT := hide hT
  have HE := hide hE
  have H0 := hide hv0
  clear hv0 hM hT hE
  rcases hbig : decide (4096 < a0.length) with _ | _
  · have hl : a0.length ≤ 4096 := by simpa using hbig
    go_enter Tryz.func5, Tryz.ntmps5
    go_wp2_with fail
    refine (big_c _ _ _ H0.out).mono ?_; rintro e w' ⟨rfl, rfl⟩
    rw [hbig]
    go_wp2_with fail
    refine (drawFormatCells_c _ _ _ H0.out hl).mono ?_; rintro e W1 ⟨u, m, rfl, o1, hm, BW⟩
    obtain ⟨A, c, rfl, _, _, _⟩ := RdL.open_ o1
    have OL := hide o1
    have HD := hide hm.wf
    have hml := hm.1
    clear o1 hm hbig
    go_wp2_with fail
    refine (iFormatCells_c _ m _ (HT.out.below BW hlT) ⟨OL.out, HD.out⟩).mono ?_; rintro e W2 ⟨rfl, b⟩
    have OL := hide (show RdL W2 2 cellEn (.slice A m.length c) m from RdL.below OL.out b (Nat.le_refl _))
    have BW := below_then BW b
    clear b
    have hts := Pu.cellsT_size m
    go_wp2_with fail
    refine (iParseCells_c _ _ (HM.out.below BW hlM) (HT.out.below BW hlT) (HE.out.below BW hlE) (by omega)).mono ?_; rintro e W3 ⟨v3, rfl, o3, b⟩
    have OL := hide (show RdL W3 2 cellEn (.slice A m.length c) m from RdL.below OL.out b (Nat.le_refl _))
    have BW := below_then BW b
    clear b
    obtain ⟨A3, c3, rfl⟩ := o3.shape
    have hgc := guard_cell
    have hgx := guard_call
    rcases hcm : Pu.cellsB m with _ | _
    · skip
      rw [(Pu.cells_none hcm).2]
      clear o3
      obtain ⟨l3, hl3⟩ : ∃ l3 : List Pu.CellD, Hid (Pu.pcL (Pu.cellsT m) = l3) := ⟨_, rfl⟩
      rw [hl3.out]
      have hcm := hide hcm
      go_wp2_with fail
      refine (iIsCells_c _ _ _ ⟨OL.out, HD.out⟩).mono ?_; rintro e W4 ⟨rfl, b⟩
      have OL := hide (show RdL W4 2 cellEn (.slice A m.length c) m from RdL.below OL.out b (Nat.le_refl _))
      have BW := below_then BW b
      clear b
      rw [hcm.out]
      go_wp2_with fail
      refine (sIsCells_c _ _ _ ⟨OL.out, HD.out⟩).mono ?_; rintro e W5 ⟨rfl, b⟩
      have OL := hide (show RdL W5 2 cellEn (.slice A m.length c) m from RdL.below OL.out b (Nat.le_refl _))
      have BW := below_then BW b
      clear b
      rw [hcm.out]
      go_wp2_with fail
      refine (iIsCells_c _ _ _ ⟨OL.out, HD.out⟩).mono ?_; rintro e W6 ⟨rfl, b⟩
      have OL := hide (show RdL W6 2 cellEn (.slice A m.length c) m from RdL.below OL.out b (Nat.le_refl _))
      have BW := below_then BW b
      clear b
      rw [hcm.out]
      go_wp2_with fail
      have BWH := hide BW
      clear BW
      go_loopw [6] (fun i wr => i = .int .i64 0 ∧ wr = W6) (fun i _ => 0)
      case atStart => exact ⟨rfl, rfl⟩
      case round =>
        obtain ⟨rfl, rfl⟩ := hrel
        have BW := BWH.out
        go_wp2_with fail
        refine (drawFormatCall_c _ _ _ (RdL.below H0.out BW (Nat.le_refl _)) hl).mono ?_; rintro e W7 ⟨x, rfl, hx, b⟩
        have HX := hide hx
        have BW := below_then BW b
        clear b hx
        unfold callV
        obtain ⟨W8, hW8⟩ : ∃ W, Hid (W7.alloc (.cells #[.string x.method, .string x.key, .int .i64 x.value, .string x.text] 37 : Obj) = W) := ⟨_, rfl⟩
        have b : Below W7.heap.size W7 W8 := by rw [← hW8.out]; exact below_alloc (Below.refl _ _) _
        have BW := below_then BW b
        clear b
        have RX := hide (show W8.heap[W7.heap.size]? = some (.cells #[.string x.method, .string x.key, .int .i64 x.value, .string x.text] 37 (0, 0) : Obj) by rw [← hW8.out]; exact heap_new rfl)
        have EX := hide (show (W7.alloc (.cells #[.string x.method, .string x.key, .int .i64 x.value, .string x.text] 37 : Obj)).heap[W7.heap.size]? = some (.cells #[.string x.method, .string x.key, .int .i64 x.value, .string x.text] 37 (0, 0) : Obj) by rw [hW8.out]; exact RX.out)
        obtain ⟨_, _, _, _, _⟩ := four_cells EX.out
        obtain ⟨_, _, _, _, _⟩ := four_cells RX.out
        go_wp2_with fail
        rw [hW8.out]
        refine (iFormatCall_c x _ (HT.out.below BW hlT) HX.out.wf HX.out.text).mono ?_; rintro e W9 ⟨rfl, b⟩
        have RX := hide (show W9.heap[W7.heap.size]? = some (.cells #[.string x.method, .string x.key, .int .i64 x.value, .string x.text] 37 (0, 0) : Obj) from row_on b RX.out)
        have BW := below_then BW b
        clear b
        have hxs := Pu.callT_size HX.out
        obtain ⟨_, _, _, _, _⟩ := four_cells RX.out
        go_wp2_with fail
        refine (iParseCall_c _ _ (HM.out.below BW hlM) (HT.out.below BW hlT) (HE.out.below BW hlE) (by omega)).mono ?_; rintro e W10 ⟨rfl, b⟩
        have RX := hide (show W10.heap[W7.heap.size]? = some (.cells #[.string x.method, .string x.key, .int .i64 x.value, .string x.text] 37 (0, 0) : Obj) from row_on b RX.out)
        have BW := below_then BW b
        clear b
        rcases hcx : Pu.callB x with _ | _
        · skip
          rw [Pu.call_none hcx]
          obtain ⟨y, hy⟩ : ∃ y, Hid (Pu.pcallC (Pu.callT x) = y) := ⟨_, rfl⟩
          rw [hy.out]
          unfold callV
          have hcx := hide hcx
          obtain ⟨W11, hW11⟩ : ∃ W, Hid (W10.alloc (.cells #[.string y.method, .string y.key, .int .i64 y.value, .string y.text] 37 : Obj) = W) := ⟨_, rfl⟩
          have b : Below W10.heap.size W10 W11 := by rw [← hW11.out]; exact below_alloc (Below.refl _ _) _
          have RX := hide (show W11.heap[W7.heap.size]? = some (.cells #[.string x.method, .string x.key, .int .i64 x.value, .string x.text] 37 (0, 0) : Obj) from row_on b RX.out)
          have BW := below_then BW b
          clear b
          have RY := hide (show W11.heap[W10.heap.size]? = some (.cells #[.string y.method, .string y.key, .int .i64 y.value, .string y.text] 37 (0, 0) : Obj) by rw [← hW11.out]; exact heap_new rfl)
          have EX := hide (show (W10.alloc (.cells #[.string y.method, .string y.key, .int .i64 y.value, .string y.text] 37 : Obj)).heap[W7.heap.size]? = some (.cells #[.string x.method, .string x.key, .int .i64 x.value, .string x.text] 37 (0, 0) : Obj) by rw [hW11.out]; exact RX.out)
          obtain ⟨_, _, _, _, _⟩ := four_cells EX.out
          have EY := hide (show (W10.alloc (.cells #[.string y.method, .string y.key, .int .i64 y.value, .string y.text] 37 : Obj)).heap[W10.heap.size]? = some (.cells #[.string y.method, .string y.key, .int .i64 y.value, .string y.text] 37 (0, 0) : Obj) by rw [hW11.out]; exact RY.out)
          obtain ⟨_, _, _, _, _⟩ := four_cells EY.out
          obtain ⟨_, _, _, _, _⟩ := four_cells RX.out
          obtain ⟨_, _, _, _, _⟩ := four_cells RY.out
          go_wp2_with fail
          rw [hW11.out]
          refine (drawParseCall_c _ _ _ (RdL.below H0.out BW (Nat.le_refl _)) hl).mono ?_; rintro e W12 ⟨s, rfl, hs, b⟩
          have RX := hide (show W12.heap[W7.heap.size]? = some (.cells #[.string x.method, .string x.key, .int .i64 x.value, .string x.text] 37 (0, 0) : Obj) from row_on b RX.out)
          have RY := hide (show W12.heap[W10.heap.size]? = some (.cells #[.string y.method, .string y.key, .int .i64 y.value, .string y.text] 37 (0, 0) : Obj) from row_on b RY.out)
          have BW := below_then BW b
          clear b
          obtain ⟨_, _, _, _, _⟩ := four_cells RX.out
          obtain ⟨_, _, _, _, _⟩ := four_cells RY.out
          go_wp2_with fail
          refine (iParseCall_c _ _ (HM.out.below BW hlM) (HT.out.below BW hlT) (HE.out.below BW hlE) (by omega)).mono ?_; rintro e W13 ⟨rfl, b⟩
          have RX := hide (show W13.heap[W7.heap.size]? = some (.cells #[.string x.method, .string x.key, .int .i64 x.value, .string x.text] 37 (0, 0) : Obj) from row_on b RX.out)
          have RY := hide (show W13.heap[W10.heap.size]? = some (.cells #[.string y.method, .string y.key, .int .i64 y.value, .string y.text] 37 (0, 0) : Obj) from row_on b RY.out)
          have BW := below_then BW b
          clear b
          rcases hps : Pu.pcallB s with _ | _
          · skip
            obtain ⟨z, hz⟩ : ∃ z, Hid (Pu.pcallC s = z) := ⟨_, rfl⟩
            rw [hz.out]
            have hps := hide hps
            unfold callV
            obtain ⟨W14, hW14⟩ : ∃ W, Hid (W13.alloc (.cells #[.string z.method, .string z.key, .int .i64 z.value, .string z.text] 37 : Obj) = W) := ⟨_, rfl⟩
            have b : Below W13.heap.size W13 W14 := by rw [← hW14.out]; exact below_alloc (Below.refl _ _) _
            have RX := hide (show W14.heap[W7.heap.size]? = some (.cells #[.string x.method, .string x.key, .int .i64 x.value, .string x.text] 37 (0, 0) : Obj) from row_on b RX.out)
            have RY := hide (show W14.heap[W10.heap.size]? = some (.cells #[.string y.method, .string y.key, .int .i64 y.value, .string y.text] 37 (0, 0) : Obj) from row_on b RY.out)
            have BW := below_then BW b
            clear b
            have RZ := hide (show W14.heap[W13.heap.size]? = some (.cells #[.string z.method, .string z.key, .int .i64 z.value, .string z.text] 37 (0, 0) : Obj) by rw [← hW14.out]; exact heap_new rfl)
            have EX := hide (show (W13.alloc (.cells #[.string z.method, .string z.key, .int .i64 z.value, .string z.text] 37 : Obj)).heap[W7.heap.size]? = some (.cells #[.string x.method, .string x.key, .int .i64 x.value, .string x.text] 37 (0, 0) : Obj) by rw [hW14.out]; exact RX.out)
            obtain ⟨_, _, _, _, _⟩ := four_cells EX.out
            have EY := hide (show (W13.alloc (.cells #[.string z.method, .string z.key, .int .i64 z.value, .string z.text] 37 : Obj)).heap[W10.heap.size]? = some (.cells #[.string y.method, .string y.key, .int .i64 y.value, .string y.text] 37 (0, 0) : Obj) by rw [hW14.out]; exact RY.out)
            obtain ⟨_, _, _, _, _⟩ := four_cells EY.out
            have EZ := hide (show (W13.alloc (.cells #[.string z.method, .string z.key, .int .i64 z.value, .string z.text] 37 : Obj)).heap[W13.heap.size]? = some (.cells #[.string z.method, .string z.key, .int .i64 z.value, .string z.text] 37 (0, 0) : Obj) by rw [hW14.out]; exact RZ.out)
            obtain ⟨_, _, _, _, _⟩ := four_cells EZ.out
            obtain ⟨_, _, _, _, _⟩ := four_cells RX.out
            obtain ⟨_, _, _, _, _⟩ := four_cells RY.out
            obtain ⟨_, _, _, _, _⟩ := four_cells RZ.out
            go_wp2_with fail
            rw [hW14.out]
            refine (iIsCall_c x _ HX.out.wf).mono ?_; rintro e W15 ⟨rfl, b⟩
            have RX := hide (show W15.heap[W7.heap.size]? = some (.cells #[.string x.method, .string x.key, .int .i64 x.value, .string x.text] 37 (0, 0) : Obj) from row_on b RX.out)
            have RY := hide (show W15.heap[W10.heap.size]? = some (.cells #[.string y.method, .string y.key, .int .i64 y.value, .string y.text] 37 (0, 0) : Obj) from row_on b RY.out)
            have RZ := hide (show W15.heap[W13.heap.size]? = some (.cells #[.string z.method, .string z.key, .int .i64 z.value, .string z.text] 37 (0, 0) : Obj) from row_on b RZ.out)
            have BW := below_then BW b
            clear b
            rw [hcx.out]
            obtain ⟨_, _, _, _, _⟩ := four_cells RX.out
            obtain ⟨_, _, _, _, _⟩ := four_cells RY.out
            obtain ⟨_, _, _, _, _⟩ := four_cells RZ.out
            go_wp2
            skip
            go_ret
            exact ⟨rfl, BW⟩
          · skip
            obtain ⟨hzw, hzt⟩ := Pu.read_wf hs hps
            have hzs := hide (Pu.call_read hps)
            obtain ⟨z, hz⟩ : ∃ z, Hid (Pu.pcallC s = z) := ⟨_, rfl⟩
            rw [hz.out] at hzw hzt hzs ⊢
            have hps := hide hps
            unfold callV
            have HZW := hide hzw
            have HZT := hide hzt
            clear hzw hzt
            obtain ⟨W16, hW16⟩ : ∃ W, Hid (W13.alloc (.cells #[.string z.method, .string z.key, .int .i64 z.value, .string z.text] 37 : Obj) = W) := ⟨_, rfl⟩
            have b : Below W13.heap.size W13 W16 := by rw [← hW16.out]; exact below_alloc (Below.refl _ _) _
            have RX := hide (show W16.heap[W7.heap.size]? = some (.cells #[.string x.method, .string x.key, .int .i64 x.value, .string x.text] 37 (0, 0) : Obj) from row_on b RX.out)
            have RY := hide (show W16.heap[W10.heap.size]? = some (.cells #[.string y.method, .string y.key, .int .i64 y.value, .string y.text] 37 (0, 0) : Obj) from row_on b RY.out)
            have BW := below_then BW b
            clear b
            have RZ := hide (show W16.heap[W13.heap.size]? = some (.cells #[.string z.method, .string z.key, .int .i64 z.value, .string z.text] 37 (0, 0) : Obj) by rw [← hW16.out]; exact heap_new rfl)
            have EX := hide (show (W13.alloc (.cells #[.string z.method, .string z.key, .int .i64 z.value, .string z.text] 37 : Obj)).heap[W7.heap.size]? = some (.cells #[.string x.method, .string x.key, .int .i64 x.value, .string x.text] 37 (0, 0) : Obj) by rw [hW16.out]; exact RX.out)
            obtain ⟨_, _, _, _, _⟩ := four_cells EX.out
            have EY := hide (show (W13.alloc (.cells #[.string z.method, .string z.key, .int .i64 z.value, .string z.text] 37 : Obj)).heap[W10.heap.size]? = some (.cells #[.string y.method, .string y.key, .int .i64 y.value, .string y.text] 37 (0, 0) : Obj) by rw [hW16.out]; exact RY.out)
            obtain ⟨_, _, _, _, _⟩ := four_cells EY.out
            have EZ := hide (show (W13.alloc (.cells #[.string z.method, .string z.key, .int .i64 z.value, .string z.text] 37 : Obj)).heap[W13.heap.size]? = some (.cells #[.string z.method, .string z.key, .int .i64 z.value, .string z.text] 37 (0, 0) : Obj) by rw [hW16.out]; exact RZ.out)
            obtain ⟨_, _, _, _, _⟩ := four_cells EZ.out
            obtain ⟨_, _, _, _, _⟩ := four_cells RX.out
            obtain ⟨_, _, _, _, _⟩ := four_cells RY.out
            obtain ⟨_, _, _, _, _⟩ := four_cells RZ.out
            go_wp2_with fail
            rw [hW16.out]
            refine (iIsCall_c x _ HX.out.wf).mono ?_; rintro e W17 ⟨rfl, b⟩
            have RX := hide (show W17.heap[W7.heap.size]? = some (.cells #[.string x.method, .string x.key, .int .i64 x.value, .string x.text] 37 (0, 0) : Obj) from row_on b RX.out)
            have RY := hide (show W17.heap[W10.heap.size]? = some (.cells #[.string y.method, .string y.key, .int .i64 y.value, .string y.text] 37 (0, 0) : Obj) from row_on b RY.out)
            have RZ := hide (show W17.heap[W13.heap.size]? = some (.cells #[.string z.method, .string z.key, .int .i64 z.value, .string z.text] 37 (0, 0) : Obj) from row_on b RZ.out)
            have BW := below_then BW b
            clear b
            rw [hcx.out]
            obtain ⟨_, _, _, _, _⟩ := four_cells RX.out
            obtain ⟨_, _, _, _, _⟩ := four_cells RY.out
            obtain ⟨_, _, _, _, _⟩ := four_cells RZ.out
            obtain ⟨_, _, _, _, _⟩ := four_cells RX.out
            obtain ⟨_, _, _, _, _⟩ := four_cells RY.out
            obtain ⟨_, _, _, _, _⟩ := four_cells RZ.out
            go_wp2_with fail
            refine (iFormatCall_c z _ (HT.out.below BW hlT) HZW.out HZT.out).mono ?_; rintro e W18 ⟨rfl, b⟩
            have RX := hide (show W18.heap[W7.heap.size]? = some (.cells #[.string x.method, .string x.key, .int .i64 x.value, .string x.text] 37 (0, 0) : Obj) from row_on b RX.out)
            have RY := hide (show W18.heap[W10.heap.size]? = some (.cells #[.string y.method, .string y.key, .int .i64 y.value, .string y.text] 37 (0, 0) : Obj) from row_on b RY.out)
            have RZ := hide (show W18.heap[W13.heap.size]? = some (.cells #[.string z.method, .string z.key, .int .i64 z.value, .string z.text] 37 (0, 0) : Obj) from row_on b RZ.out)
            have BW := below_then BW b
            clear b
            rw [hzs.out]
            have hss : (s.toList == s.toList) = true := by simp
            obtain ⟨_, _, _, _, _⟩ := four_cells RX.out
            obtain ⟨_, _, _, _, _⟩ := four_cells RY.out
            obtain ⟨_, _, _, _, _⟩ := four_cells RZ.out
            go_wp2
            go_ret
            exact ⟨rfl, BW⟩
        · skip
          obtain ⟨e1, e2⟩ := Pu.call_back hcx
          rw [e1, e2]
          clear e1 e2
          unfold callV
          have hcx := hide hcx
          obtain ⟨W19, hW19⟩ : ∃ W, Hid (W10.alloc (.cells #[.string x.method, .string x.key, .int .i64 x.value, .string x.text] 37 : Obj) = W) := ⟨_, rfl⟩
          have b : Below W10.heap.size W10 W19 := by rw [← hW19.out]; exact below_alloc (Below.refl _ _) _
          have RX := hide (show W19.heap[W7.heap.size]? = some (.cells #[.string x.method, .string x.key, .int .i64 x.value, .string x.text] 37 (0, 0) : Obj) from row_on b RX.out)
          have BW := below_then BW b
          clear b
          have RY := hide (show W19.heap[W10.heap.size]? = some (.cells #[.string x.method, .string x.key, .int .i64 x.value, .string x.text] 37 (0, 0) : Obj) by rw [← hW19.out]; exact heap_new rfl)
          have EX := hide (show (W10.alloc (.cells #[.string x.method, .string x.key, .int .i64 x.value, .string x.text] 37 : Obj)).heap[W7.heap.size]? = some (.cells #[.string x.method, .string x.key, .int .i64 x.value, .string x.text] 37 (0, 0) : Obj) by rw [hW19.out]; exact RX.out)
          obtain ⟨_, _, _, _, _⟩ := four_cells EX.out
          have EY := hide (show (W10.alloc (.cells #[.string x.method, .string x.key, .int .i64 x.value, .string x.text] 37 : Obj)).heap[W10.heap.size]? = some (.cells #[.string x.method, .string x.key, .int .i64 x.value, .string x.text] 37 (0, 0) : Obj) by rw [hW19.out]; exact RY.out)
          obtain ⟨_, _, _, _, _⟩ := four_cells EY.out
          obtain ⟨_, _, _, _, _⟩ := four_cells RX.out
          obtain ⟨_, _, _, _, _⟩ := four_cells RY.out
          go_wp2_with fail
          rw [hW19.out]
          refine (drawParseCall_c _ _ _ (RdL.below H0.out BW (Nat.le_refl _)) hl).mono ?_; rintro e W20 ⟨s, rfl, hs, b⟩
          have RX := hide (show W20.heap[W7.heap.size]? = some (.cells #[.string x.method, .string x.key, .int .i64 x.value, .string x.text] 37 (0, 0) : Obj) from row_on b RX.out)
          have RY := hide (show W20.heap[W10.heap.size]? = some (.cells #[.string x.method, .string x.key, .int .i64 x.value, .string x.text] 37 (0, 0) : Obj) from row_on b RY.out)
          have BW := below_then BW b
          clear b
          obtain ⟨_, _, _, _, _⟩ := four_cells RX.out
          obtain ⟨_, _, _, _, _⟩ := four_cells RY.out
          go_wp2_with fail
          refine (iParseCall_c _ _ (HM.out.below BW hlM) (HT.out.below BW hlT) (HE.out.below BW hlE) (by omega)).mono ?_; rintro e W21 ⟨rfl, b⟩
          have RX := hide (show W21.heap[W7.heap.size]? = some (.cells #[.string x.method, .string x.key, .int .i64 x.value, .string x.text] 37 (0, 0) : Obj) from row_on b RX.out)
          have RY := hide (show W21.heap[W10.heap.size]? = some (.cells #[.string x.method, .string x.key, .int .i64 x.value, .string x.text] 37 (0, 0) : Obj) from row_on b RY.out)
          have BW := below_then BW b
          clear b
          rcases hps : Pu.pcallB s with _ | _
          · skip
            obtain ⟨z, hz⟩ : ∃ z, Hid (Pu.pcallC s = z) := ⟨_, rfl⟩
            rw [hz.out]
            have hps := hide hps
            unfold callV
            obtain ⟨W22, hW22⟩ : ∃ W, Hid (W21.alloc (.cells #[.string z.method, .string z.key, .int .i64 z.value, .string z.text] 37 : Obj) = W) := ⟨_, rfl⟩
            have b : Below W21.heap.size W21 W22 := by rw [← hW22.out]; exact below_alloc (Below.refl _ _) _
            have RX := hide (show W22.heap[W7.heap.size]? = some (.cells #[.string x.method, .string x.key, .int .i64 x.value, .string x.text] 37 (0, 0) : Obj) from row_on b RX.out)
            have RY := hide (show W22.heap[W10.heap.size]? = some (.cells #[.string x.method, .string x.key, .int .i64 x.value, .string x.text] 37 (0, 0) : Obj) from row_on b RY.out)
            have BW := below_then BW b
            clear b
            have RZ := hide (show W22.heap[W21.heap.size]? = some (.cells #[.string z.method, .string z.key, .int .i64 z.value, .string z.text] 37 (0, 0) : Obj) by rw [← hW22.out]; exact heap_new rfl)
            have EX := hide (show (W21.alloc (.cells #[.string z.method, .string z.key, .int .i64 z.value, .string z.text] 37 : Obj)).heap[W7.heap.size]? = some (.cells #[.string x.method, .string x.key, .int .i64 x.value, .string x.text] 37 (0, 0) : Obj) by rw [hW22.out]; exact RX.out)
            obtain ⟨_, _, _, _, _⟩ := four_cells EX.out
            have EY := hide (show (W21.alloc (.cells #[.string z.method, .string z.key, .int .i64 z.value, .string z.text] 37 : Obj)).heap[W10.heap.size]? = some (.cells #[.string x.method, .string x.key, .int .i64 x.value, .string x.text] 37 (0, 0) : Obj) by rw [hW22.out]; exact RY.out)
            obtain ⟨_, _, _, _, _⟩ := four_cells EY.out
            have EZ := hide (show (W21.alloc (.cells #[.string z.method, .string z.key, .int .i64 z.value, .string z.text] 37 : Obj)).heap[W21.heap.size]? = some (.cells #[.string z.method, .string z.key, .int .i64 z.value, .string z.text] 37 (0, 0) : Obj) by rw [hW22.out]; exact RZ.out)
            obtain ⟨_, _, _, _, _⟩ := four_cells EZ.out
            obtain ⟨_, _, _, _, _⟩ := four_cells RX.out
            obtain ⟨_, _, _, _, _⟩ := four_cells RY.out
            obtain ⟨_, _, _, _, _⟩ := four_cells RZ.out
            go_wp2_with fail
            rw [hW22.out]
            refine (iIsCall_c x _ HX.out.wf).mono ?_; rintro e W23 ⟨rfl, b⟩
            have RX := hide (show W23.heap[W7.heap.size]? = some (.cells #[.string x.method, .string x.key, .int .i64 x.value, .string x.text] 37 (0, 0) : Obj) from row_on b RX.out)
            have RY := hide (show W23.heap[W10.heap.size]? = some (.cells #[.string x.method, .string x.key, .int .i64 x.value, .string x.text] 37 (0, 0) : Obj) from row_on b RY.out)
            have RZ := hide (show W23.heap[W21.heap.size]? = some (.cells #[.string z.method, .string z.key, .int .i64 z.value, .string z.text] 37 (0, 0) : Obj) from row_on b RZ.out)
            have BW := below_then BW b
            clear b
            rw [hcx.out]
            obtain ⟨_, _, _, _, _⟩ := four_cells RX.out
            obtain ⟨_, _, _, _, _⟩ := four_cells RY.out
            obtain ⟨_, _, _, _, _⟩ := four_cells RZ.out
            have heq := fun w => eql_call x.value x.method x.method x.key x.key x.text x.text rfl rfl rfl w
            go_wp2
            skip
            go_ret
            exact ⟨rfl, BW⟩
          · skip
            obtain ⟨hzw, hzt⟩ := Pu.read_wf hs hps
            have hzs := hide (Pu.call_read hps)
            obtain ⟨z, hz⟩ : ∃ z, Hid (Pu.pcallC s = z) := ⟨_, rfl⟩
            rw [hz.out] at hzw hzt hzs ⊢
            have hps := hide hps
            unfold callV
            have HZW := hide hzw
            have HZT := hide hzt
            clear hzw hzt
            obtain ⟨W24, hW24⟩ : ∃ W, Hid (W21.alloc (.cells #[.string z.method, .string z.key, .int .i64 z.value, .string z.text] 37 : Obj) = W) := ⟨_, rfl⟩
            have b : Below W21.heap.size W21 W24 := by rw [← hW24.out]; exact below_alloc (Below.refl _ _) _
            have RX := hide (show W24.heap[W7.heap.size]? = some (.cells #[.string x.method, .string x.key, .int .i64 x.value, .string x.text] 37 (0, 0) : Obj) from row_on b RX.out)
            have RY := hide (show W24.heap[W10.heap.size]? = some (.cells #[.string x.method, .string x.key, .int .i64 x.value, .string x.text] 37 (0, 0) : Obj) from row_on b RY.out)
            have BW := below_then BW b
            clear b
            have RZ := hide (show W24.heap[W21.heap.size]? = some (.cells #[.string z.method, .string z.key, .int .i64 z.value, .string z.text] 37 (0, 0) : Obj) by rw [← hW24.out]; exact heap_new rfl)
            have EX := hide (show (W21.alloc (.cells #[.string z.method, .string z.key, .int .i64 z.value, .string z.text] 37 : Obj)).heap[W7.heap.size]? = some (.cells #[.string x.method, .string x.key, .int .i64 x.value, .string x.text] 37 (0, 0) : Obj) by rw [hW24.out]; exact RX.out)
            obtain ⟨_, _, _, _, _⟩ := four_cells EX.out
            have EY := hide (show (W21.alloc (.cells #[.string z.method, .string z.key, .int .i64 z.value, .string z.text] 37 : Obj)).heap[W10.heap.size]? = some (.cells #[.string x.method, .string x.key, .int .i64 x.value, .string x.text] 37 (0, 0) : Obj) by rw [hW24.out]; exact RY.out)
            obtain ⟨_, _, _, _, _⟩ := four_cells EY.out
            have EZ := hide (show (W21.alloc (.cells #[.string z.method, .string z.key, .int .i64 z.value, .string z.text] 37 : Obj)).heap[W21.heap.size]? = some (.cells #[.string z.method, .string z.key, .int .i64 z.value, .string z.text] 37 (0, 0) : Obj) by rw [hW24.out]; exact RZ.out)
            obtain ⟨_, _, _, _, _⟩ := four_cells EZ.out
            obtain ⟨_, _, _, _, _⟩ := four_cells RX.out
            obtain ⟨_, _, _, _, _⟩ := four_cells RY.out
            obtain ⟨_, _, _, _, _⟩ := four_cells RZ.out
            go_wp2_with fail
            rw [hW24.out]
            refine (iIsCall_c x _ HX.out.wf).mono ?_; rintro e W25 ⟨rfl, b⟩
            have RX := hide (show W25.heap[W7.heap.size]? = some (.cells #[.string x.method, .string x.key, .int .i64 x.value, .string x.text] 37 (0, 0) : Obj) from row_on b RX.out)
            have RY := hide (show W25.heap[W10.heap.size]? = some (.cells #[.string x.method, .string x.key, .int .i64 x.value, .string x.text] 37 (0, 0) : Obj) from row_on b RY.out)
            have RZ := hide (show W25.heap[W21.heap.size]? = some (.cells #[.string z.method, .string z.key, .int .i64 z.value, .string z.text] 37 (0, 0) : Obj) from row_on b RZ.out)
            have BW := below_then BW b
            clear b
            rw [hcx.out]
            obtain ⟨_, _, _, _, _⟩ := four_cells RX.out
            obtain ⟨_, _, _, _, _⟩ := four_cells RY.out
            obtain ⟨_, _, _, _, _⟩ := four_cells RZ.out
            have heq := fun w => eql_call x.value x.method x.method x.key x.key x.text x.text rfl rfl rfl w
            obtain ⟨_, _, _, _, _⟩ := four_cells RX.out
            obtain ⟨_, _, _, _, _⟩ := four_cells RY.out
            obtain ⟨_, _, _, _, _⟩ := four_cells RZ.out
            go_wp2_with fail
            refine (iFormatCall_c z _ (HT.out.below BW hlT) HZW.out HZT.out).mono ?_; rintro e W26 ⟨rfl, b⟩
            have RX := hide (show W26.heap[W7.heap.size]? = some (.cells #[.string x.method, .string x.key, .int .i64 x.value, .string x.text] 37 (0, 0) : Obj) from row_on b RX.out)
            have RY := hide (show W26.heap[W10.heap.size]? = some (.cells #[.string x.method, .string x.key, .int .i64 x.value, .string x.text] 37 (0, 0) : Obj) from row_on b RY.out)
            have RZ := hide (show W26.heap[W21.heap.size]? = some (.cells #[.string z.method, .string z.key, .int .i64 z.value, .string z.text] 37 (0, 0) : Obj) from row_on b RZ.out)
            have BW := below_then BW b
            clear b
            rw [hzs.out]
            have hss : (s.toList == s.toList) = true := by simp
            obtain ⟨_, _, _, _, _⟩ := four_cells RX.out
            obtain ⟨_, _, _, _, _⟩ := four_cells RY.out
            obtain ⟨_, _, _, _, _⟩ := four_cells RZ.out
            go_wp2
            go_ret
            exact ⟨rfl, BW⟩
    · skip
      obtain ⟨e1, e2⟩ := Pu.cells_back hcm
      rw [e2] at o3 ⊢
      rw [e1]
      clear e1 e2
      have OR := hide (show RdL W3 2 cellEn (.slice A3 m.length c3) m from o3.rd (fun _ => rfl))
      clear o3
      have hcm := hide hcm
      go_wp2_with fail
      refine (iIsCells_c _ _ _ ⟨OL.out, HD.out⟩).mono ?_; rintro e W27 ⟨rfl, b⟩
      have OL := hide (show RdL W27 2 cellEn (.slice A m.length c) m from RdL.below OL.out b (Nat.le_refl _))
      have OR := hide (show RdL W27 2 cellEn (.slice A3 m.length c3) m from RdL.below OR.out b (Nat.le_refl _))
      have BW := below_then BW b
      clear b
      rw [hcm.out]
      go_wp2_with fail
      refine (sIsCells_c _ _ _ ⟨OL.out, HD.out⟩).mono ?_; rintro e W28 ⟨rfl, b⟩
      have OL := hide (show RdL W28 2 cellEn (.slice A m.length c) m from RdL.below OL.out b (Nat.le_refl _))
      have OR := hide (show RdL W28 2 cellEn (.slice A3 m.length c3) m from RdL.below OR.out b (Nat.le_refl _))
      have BW := below_then BW b
      clear b
      rw [hcm.out]
      go_wp2_with fail
      refine (iIsCells_c _ _ _ ⟨OL.out, HD.out⟩).mono ?_; rintro e W29 ⟨rfl, b⟩
      have OL := hide (show RdL W29 2 cellEn (.slice A m.length c) m from RdL.below OL.out b (Nat.le_refl _))
      have OR := hide (show RdL W29 2 cellEn (.slice A3 m.length c3) m from RdL.below OR.out b (Nat.le_refl _))
      have BW := below_then BW b
      clear b
      rw [hcm.out]
      go_wp2_with fail
      have BWH := hide BW
      clear BW
      obtain ⟨_, _, e3, _, _, hA3⟩ := RdL.open_ OR.out
      injection e3 with e3 _ e4
      subst e3 e4
      obtain ⟨_, _, e3, _, _, hA⟩ := RdL.open_ OL.out
      injection e3 with e3 _ e4
      subst e3 e4
      have HA := hide hA
      have HA3 := hide hA3
      clear hA hA3
      go_loopw [6] (fun i wr => ∃ k : Nat, k ≤ m.length ∧ i = .int .i64 k ∧ Below W29.heap.size W29 wr) (fun i _ => m.length - (intOf i).toNat)
      case atStart => exact ⟨0, by omega, rfl, Below.refl _ _⟩
      case round =>
        obtain ⟨k, hk, rfl, hb⟩ := hrel
        by_cases hlt : k < m.length
        · obtain ⟨g, o, rfl, hg, HC⟩ := HA.out.at_ (by omega)
          obtain ⟨g', o', rfl, hg', HC'⟩ := HA3.out.at_ (by omega)
          obtain ⟨x, HX, h0, h1⟩ := cell_get HC hb hlt
          obtain ⟨y, HY, h2, h3⟩ := cell_get HC' hb hlt
          obtain rfl : x = y := Option.some.inj (HX.out.symm.trans HY.out)
          have HB := hide hb
          clear hb
          go_wp2
          have hq := fun w' => neq_cell x.key x.key x.val x.val w'
          have hkk : (x.key.toList == x.key.toList) = true := by simp
          go_quiet (fail)
          go_wp2
          go_roundw
          case rel => exact ⟨k + 1, by omega, by go_num, below_drewN HB.out _⟩
          case measure => simp [intOf]; omega
        · obtain rfl : k = m.length := by omega
          have BW := below_then BWH.out hb
          go_wp2_with fail
          refine (drawFormatCall_c _ _ _ (RdL.below H0.out BW (Nat.le_refl _)) hl).mono ?_; rintro e W30 ⟨x, rfl, hx, b⟩
          have HX := hide hx
          have BW := below_then BW b
          clear b hx
          unfold callV
          obtain ⟨W31, hW31⟩ : ∃ W, Hid (W30.alloc (.cells #[.string x.method, .string x.key, .int .i64 x.value, .string x.text] 37 : Obj) = W) := ⟨_, rfl⟩
          have b : Below W30.heap.size W30 W31 := by rw [← hW31.out]; exact below_alloc (Below.refl _ _) _
          have BW := below_then BW b
          clear b
          have RX := hide (show W31.heap[W30.heap.size]? = some (.cells #[.string x.method, .string x.key, .int .i64 x.value, .string x.text] 37 (0, 0) : Obj) by rw [← hW31.out]; exact heap_new rfl)
          have EX := hide (show (W30.alloc (.cells #[.string x.method, .string x.key, .int .i64 x.value, .string x.text] 37 : Obj)).heap[W30.heap.size]? = some (.cells #[.string x.method, .string x.key, .int .i64 x.value, .string x.text] 37 (0, 0) : Obj) by rw [hW31.out]; exact RX.out)
          obtain ⟨_, _, _, _, _⟩ := four_cells EX.out
          obtain ⟨_, _, _, _, _⟩ := four_cells RX.out
          go_wp2_with fail
          rw [hW31.out]
          refine (iFormatCall_c x _ (HT.out.below BW hlT) HX.out.wf HX.out.text).mono ?_; rintro e W32 ⟨rfl, b⟩
          have RX := hide (show W32.heap[W30.heap.size]? = some (.cells #[.string x.method, .string x.key, .int .i64 x.value, .string x.text] 37 (0, 0) : Obj) from row_on b RX.out)
          have BW := below_then BW b
          clear b
          have hxs := Pu.callT_size HX.out
          obtain ⟨_, _, _, _, _⟩ := four_cells RX.out
          go_wp2_with fail
          refine (iParseCall_c _ _ (HM.out.below BW hlM) (HT.out.below BW hlT) (HE.out.below BW hlE) (by omega)).mono ?_; rintro e W33 ⟨rfl, b⟩
          have RX := hide (show W33.heap[W30.heap.size]? = some (.cells #[.string x.method, .string x.key, .int .i64 x.value, .string x.text] 37 (0, 0) : Obj) from row_on b RX.out)
          have BW := below_then BW b
          clear b
          rcases hcx : Pu.callB x with _ | _
          · skip
            rw [Pu.call_none hcx]
            obtain ⟨y, hy⟩ : ∃ y, Hid (Pu.pcallC (Pu.callT x) = y) := ⟨_, rfl⟩
            rw [hy.out]
            unfold callV
            have hcx := hide hcx
            obtain ⟨W34, hW34⟩ : ∃ W, Hid (W33.alloc (.cells #[.string y.method, .string y.key, .int .i64 y.value, .string y.text] 37 : Obj) = W) := ⟨_, rfl⟩
            have b : Below W33.heap.size W33 W34 := by rw [← hW34.out]; exact below_alloc (Below.refl _ _) _
            have RX := hide (show W34.heap[W30.heap.size]? = some (.cells #[.string x.method, .string x.key, .int .i64 x.value, .string x.text] 37 (0, 0) : Obj) from row_on b RX.out)
            have BW := below_then BW b
            clear b
            have RY := hide (show W34.heap[W33.heap.size]? = some (.cells #[.string y.method, .string y.key, .int .i64 y.value, .string y.text] 37 (0, 0) : Obj) by rw [← hW34.out]; exact heap_new rfl)
            have EX := hide (show (W33.alloc (.cells #[.string y.method, .string y.key, .int .i64 y.value, .string y.text] 37 : Obj)).heap[W30.heap.size]? = some (.cells #[.string x.method, .string x.key, .int .i64 x.value, .string x.text] 37 (0, 0) : Obj) by rw [hW34.out]; exact RX.out)
            obtain ⟨_, _, _, _, _⟩ := four_cells EX.out
            have EY := hide (show (W33.alloc (.cells #[.string y.method, .string y.key, .int .i64 y.value, .string y.text] 37 : Obj)).heap[W33.heap.size]? = some (.cells #[.string y.method, .string y.key, .int .i64 y.value, .string y.text] 37 (0, 0) : Obj) by rw [hW34.out]; exact RY.out)
            obtain ⟨_, _, _, _, _⟩ := four_cells EY.out
            obtain ⟨_, _, _, _, _⟩ := four_cells RX.out
            obtain ⟨_, _, _, _, _⟩ := four_cells RY.out
            go_wp2_with fail
            rw [hW34.out]
            refine (drawParseCall_c _ _ _ (RdL.below H0.out BW (Nat.le_refl _)) hl).mono ?_; rintro e W35 ⟨s, rfl, hs, b⟩
            have RX := hide (show W35.heap[W30.heap.size]? = some (.cells #[.string x.method, .string x.key, .int .i64 x.value, .string x.text] 37 (0, 0) : Obj) from row_on b RX.out)
            have RY := hide (show W35.heap[W33.heap.size]? = some (.cells #[.string y.method, .string y.key, .int .i64 y.value, .string y.text] 37 (0, 0) : Obj) from row_on b RY.out)
            have BW := below_then BW b
            clear b
            obtain ⟨_, _, _, _, _⟩ := four_cells RX.out
            obtain ⟨_, _, _, _, _⟩ := four_cells RY.out
            go_wp2_with fail
            refine (iParseCall_c _ _ (HM.out.below BW hlM) (HT.out.below BW hlT) (HE.out.below BW hlE) (by omega)).mono ?_; rintro e W36 ⟨rfl, b⟩
            have RX := hide (show W36.heap[W30.heap.size]? = some (.cells #[.string x.method, .string x.key, .int .i64 x.value, .string x.text] 37 (0, 0) : Obj) from row_on b RX.out)
            have RY := hide (show W36.heap[W33.heap.size]? = some (.cells #[.string y.method, .string y.key, .int .i64 y.value, .string y.text] 37 (0, 0) : Obj) from row_on b RY.out)
            have BW := below_then BW b
            clear b
            rcases hps : Pu.pcallB s with _ | _
            · skip
              obtain ⟨z, hz⟩ : ∃ z, Hid (Pu.pcallC s = z) := ⟨_, rfl⟩
              rw [hz.out]
              have hps := hide hps
              unfold callV
              obtain ⟨W37, hW37⟩ : ∃ W, Hid (W36.alloc (.cells #[.string z.method, .string z.key, .int .i64 z.value, .string z.text] 37 : Obj) = W) := ⟨_, rfl⟩
              have b : Below W36.heap.size W36 W37 := by rw [← hW37.out]; exact below_alloc (Below.refl _ _) _
              have RX := hide (show W37.heap[W30.heap.size]? = some (.cells #[.string x.method, .string x.key, .int .i64 x.value, .string x.text] 37 (0, 0) : Obj) from row_on b RX.out)
              have RY := hide (show W37.heap[W33.heap.size]? = some (.cells #[.string y.method, .string y.key, .int .i64 y.value, .string y.text] 37 (0, 0) : Obj) from row_on b RY.out)
              have BW := below_then BW b
              clear b
              have RZ := hide (show W37.heap[W36.heap.size]? = some (.cells #[.string z.method, .string z.key, .int .i64 z.value, .string z.text] 37 (0, 0) : Obj) by rw [← hW37.out]; exact heap_new rfl)
              have EX := hide (show (W36.alloc (.cells #[.string z.method, .string z.key, .int .i64 z.value, .string z.text] 37 : Obj)).heap[W30.heap.size]? = some (.cells #[.string x.method, .string x.key, .int .i64 x.value, .string x.text] 37 (0, 0) : Obj) by rw [hW37.out]; exact RX.out)
              obtain ⟨_, _, _, _, _⟩ := four_cells EX.out
              have EY := hide (show (W36.alloc (.cells #[.string z.method, .string z.key, .int .i64 z.value, .string z.text] 37 : Obj)).heap[W33.heap.size]? = some (.cells #[.string y.method, .string y.key, .int .i64 y.value, .string y.text] 37 (0, 0) : Obj) by rw [hW37.out]; exact RY.out)
              obtain ⟨_, _, _, _, _⟩ := four_cells EY.out
              have EZ := hide (show (W36.alloc (.cells #[.string z.method, .string z.key, .int .i64 z.value, .string z.text] 37 : Obj)).heap[W36.heap.size]? = some (.cells #[.string z.method, .string z.key, .int .i64 z.value, .string z.text] 37 (0, 0) : Obj) by rw [hW37.out]; exact RZ.out)
              obtain ⟨_, _, _, _, _⟩ := four_cells EZ.out
              obtain ⟨_, _, _, _, _⟩ := four_cells RX.out
              obtain ⟨_, _, _, _, _⟩ := four_cells RY.out
              obtain ⟨_, _, _, _, _⟩ := four_cells RZ.out
              go_wp2_with fail
              rw [hW37.out]
              refine (iIsCall_c x _ HX.out.wf).mono ?_; rintro e W38 ⟨rfl, b⟩
              have RX := hide (show W38.heap[W30.heap.size]? = some (.cells #[.string x.method, .string x.key, .int .i64 x.value, .string x.text] 37 (0, 0) : Obj) from row_on b RX.out)
              have RY := hide (show W38.heap[W33.heap.size]? = some (.cells #[.string y.method, .string y.key, .int .i64 y.value, .string y.text] 37 (0, 0) : Obj) from row_on b RY.out)
              have RZ := hide (show W38.heap[W36.heap.size]? = some (.cells #[.string z.method, .string z.key, .int .i64 z.value, .string z.text] 37 (0, 0) : Obj) from row_on b RZ.out)
              have BW := below_then BW b
              clear b
              rw [hcx.out]
              obtain ⟨_, _, _, _, _⟩ := four_cells RX.out
              obtain ⟨_, _, _, _, _⟩ := four_cells RY.out
              obtain ⟨_, _, _, _, _⟩ := four_cells RZ.out
              go_wp2
              skip
              go_ret
              exact ⟨rfl, BW⟩
            · skip
              obtain ⟨hzw, hzt⟩ := Pu.read_wf hs hps
              have hzs := hide (Pu.call_read hps)
              obtain ⟨z, hz⟩ : ∃ z, Hid (Pu.pcallC s = z) := ⟨_, rfl⟩
              rw [hz.out] at hzw hzt hzs ⊢
              have hps := hide hps
              unfold callV
              have HZW := hide hzw
              have HZT := hide hzt
              clear hzw hzt
              obtain ⟨W39, hW39⟩ : ∃ W, Hid (W36.alloc (.cells #[.string z.method, .string z.key, .int .i64 z.value, .string z.text] 37 : Obj) = W) := ⟨_, rfl⟩
              have b : Below W36.heap.size W36 W39 := by rw [← hW39.out]; exact below_alloc (Below.refl _ _) _
              have RX := hide (show W39.heap[W30.heap.size]? = some (.cells #[.string x.method, .string x.key, .int .i64 x.value, .string x.text] 37 (0, 0) : Obj) from row_on b RX.out)
              have RY := hide (show W39.heap[W33.heap.size]? = some (.cells #[.string y.method, .string y.key, .int .i64 y.value, .string y.text] 37 (0, 0) : Obj) from row_on b RY.out)
              have BW := below_then BW b
              clear b
              have RZ := hide (show W39.heap[W36.heap.size]? = some (.cells #[.string z.method, .string z.key, .int .i64 z.value, .string z.text] 37 (0, 0) : Obj) by rw [← hW39.out]; exact heap_new rfl)
              have EX := hide (show (W36.alloc (.cells #[.string z.method, .string z.key, .int .i64 z.value, .string z.text] 37 : Obj)).heap[W30.heap.size]? = some (.cells #[.string x.method, .string x.key, .int .i64 x.value, .string x.text] 37 (0, 0) : Obj) by rw [hW39.out]; exact RX.out)
              obtain ⟨_, _, _, _, _⟩ := four_cells EX.out
              have EY := hide (show (W36.alloc (.cells #[.string z.method, .string z.key, .int .i64 z.value, .string z.text] 37 : Obj)).heap[W33.heap.size]? = some (.cells #[.string y.method, .string y.key, .int .i64 y.value, .string y.text] 37 (0, 0) : Obj) by rw [hW39.out]; exact RY.out)
              obtain ⟨_, _, _, _, _⟩ := four_cells EY.out
              have EZ := hide (show (W36.alloc (.cells #[.string z.method, .string z.key, .int .i64 z.value, .string z.text] 37 : Obj)).heap[W36.heap.size]? = some (.cells #[.string z.method, .string z.key, .int .i64 z.value, .string z.text] 37 (0, 0) : Obj) by rw [hW39.out]; exact RZ.out)
              obtain ⟨_, _, _, _, _⟩ := four_cells EZ.out
              obtain ⟨_, _, _, _, _⟩ := four_cells RX.out
              obtain ⟨_, _, _, _, _⟩ := four_cells RY.out
              obtain ⟨_, _, _, _, _⟩ := four_cells RZ.out
              go_wp2_with fail
              rw [hW39.out]
              refine (iIsCall_c x _ HX.out.wf).mono ?_; rintro e W40 ⟨rfl, b⟩
              have RX := hide (show W40.heap[W30.heap.size]? = some (.cells #[.string x.method, .string x.key, .int .i64 x.value, .string x.text] 37 (0, 0) : Obj) from row_on b RX.out)
              have RY := hide (show W40.heap[W33.heap.size]? = some (.cells #[.string y.method, .string y.key, .int .i64 y.value, .string y.text] 37 (0, 0) : Obj) from row_on b RY.out)
              have RZ := hide (show W40.heap[W36.heap.size]? = some (.cells #[.string z.method, .string z.key, .int .i64 z.value, .string z.text] 37 (0, 0) : Obj) from row_on b RZ.out)
              have BW := below_then BW b
              clear b
              rw [hcx.out]
              obtain ⟨_, _, _, _, _⟩ := four_cells RX.out
              obtain ⟨_, _, _, _, _⟩ := four_cells RY.out
              obtain ⟨_, _, _, _, _⟩ := four_cells RZ.out
              obtain ⟨_, _, _, _, _⟩ := four_cells RX.out
              obtain ⟨_, _, _, _, _⟩ := four_cells RY.out
              obtain ⟨_, _, _, _, _⟩ := four_cells RZ.out
              go_wp2_with fail
              refine (iFormatCall_c z _ (HT.out.below BW hlT) HZW.out HZT.out).mono ?_; rintro e W41 ⟨rfl, b⟩
              have RX := hide (show W41.heap[W30.heap.size]? = some (.cells #[.string x.method, .string x.key, .int .i64 x.value, .string x.text] 37 (0, 0) : Obj) from row_on b RX.out)
              have RY := hide (show W41.heap[W33.heap.size]? = some (.cells #[.string y.method, .string y.key, .int .i64 y.value, .string y.text] 37 (0, 0) : Obj) from row_on b RY.out)
              have RZ := hide (show W41.heap[W36.heap.size]? = some (.cells #[.string z.method, .string z.key, .int .i64 z.value, .string z.text] 37 (0, 0) : Obj) from row_on b RZ.out)
              have BW := below_then BW b
              clear b
              rw [hzs.out]
              have hss : (s.toList == s.toList) = true := by simp
              obtain ⟨_, _, _, _, _⟩ := four_cells RX.out
              obtain ⟨_, _, _, _, _⟩ := four_cells RY.out
              obtain ⟨_, _, _, _, _⟩ := four_cells RZ.out
              go_wp2
              go_ret
              exact ⟨rfl, BW⟩
          · skip
            obtain ⟨e1, e2⟩ := Pu.call_back hcx
            rw [e1, e2]
            clear e1 e2
            unfold callV
            have hcx := hide hcx
            obtain ⟨W42, hW42⟩ : ∃ W, Hid (W33.alloc (.cells #[.string x.method, .string x.key, .int .i64 x.value, .string x.text] 37 : Obj) = W) := ⟨_, rfl⟩
            have b : Below W33.heap.size W33 W42 := by rw [← hW42.out]; exact below_alloc (Below.refl _ _) _
            have RX := hide (show W42.heap[W30.heap.size]? = some (.cells #[.string x.method, .string x.key, .int .i64 x.value, .string x.text] 37 (0, 0) : Obj) from row_on b RX.out)
            have BW := below_then BW b
            clear b
            have RY := hide (show W42.heap[W33.heap.size]? = some (.cells #[.string x.method, .string x.key, .int .i64 x.value, .string x.text] 37 (0, 0) : Obj) by rw [← hW42.out]; exact heap_new rfl)
            have EX := hide (show (W33.alloc (.cells #[.string x.method, .string x.key, .int .i64 x.value, .string x.text] 37 : Obj)).heap[W30.heap.size]? = some (.cells #[.string x.method, .string x.key, .int .i64 x.value, .string x.text] 37 (0, 0) : Obj) by rw [hW42.out]; exact RX.out)
            obtain ⟨_, _, _, _, _⟩ := four_cells EX.out
            have EY := hide (show (W33.alloc (.cells #[.string x.method, .string x.key, .int .i64 x.value, .string x.text] 37 : Obj)).heap[W33.heap.size]? = some (.cells #[.string x.method, .string x.key, .int .i64 x.value, .string x.text] 37 (0, 0) : Obj) by rw [hW42.out]; exact RY.out)
            obtain ⟨_, _, _, _, _⟩ := four_cells EY.out
            obtain ⟨_, _, _, _, _⟩ := four_cells RX.out
            obtain ⟨_, _, _, _, _⟩ := four_cells RY.out
            go_wp2_with fail
            rw [hW42.out]
            refine (drawParseCall_c _ _ _ (RdL.below H0.out BW (Nat.le_refl _)) hl).mono ?_; rintro e W43 ⟨s, rfl, hs, b⟩
            have RX := hide (show W43.heap[W30.heap.size]? = some (.cells #[.string x.method, .string x.key, .int .i64 x.value, .string x.text] 37 (0, 0) : Obj) from row_on b RX.out)
            have RY := hide (show W43.heap[W33.heap.size]? = some (.cells #[.string x.method, .string x.key, .int .i64 x.value, .string x.text] 37 (0, 0) : Obj) from row_on b RY.out)
            have BW := below_then BW b
            clear b
            obtain ⟨_, _, _, _, _⟩ := four_cells RX.out
            obtain ⟨_, _, _, _, _⟩ := four_cells RY.out
            go_wp2_with fail
            refine (iParseCall_c _ _ (HM.out.below BW hlM) (HT.out.below BW hlT) (HE.out.below BW hlE) (by omega)).mono ?_; rintro e W44 ⟨rfl, b⟩
            have RX := hide (show W44.heap[W30.heap.size]? = some (.cells #[.string x.method, .string x.key, .int .i64 x.value, .string x.text] 37 (0, 0) : Obj) from row_on b RX.out)
            have RY := hide (show W44.heap[W33.heap.size]? = some (.cells #[.string x.method, .string x.key, .int .i64 x.value, .string x.text] 37 (0, 0) : Obj) from row_on b RY.out)
            have BW := below_then BW b
            clear b
            rcases hps : Pu.pcallB s with _ | _
            · skip
              obtain ⟨z, hz⟩ : ∃ z, Hid (Pu.pcallC s = z) := ⟨_, rfl⟩
              rw [hz.out]
              have hps := hide hps
              unfold callV
              obtain ⟨W45, hW45⟩ : ∃ W, Hid (W44.alloc (.cells #[.string z.method, .string z.key, .int .i64 z.value, .string z.text] 37 : Obj) = W) := ⟨_, rfl⟩
              have b : Below W44.heap.size W44 W45 := by rw [← hW45.out]; exact below_alloc (Below.refl _ _) _
              have RX := hide (show W45.heap[W30.heap.size]? = some (.cells #[.string x.method, .string x.key, .int .i64 x.value, .string x.text] 37 (0, 0) : Obj) from row_on b RX.out)
              have RY := hide (show W45.heap[W33.heap.size]? = some (.cells #[.string x.method, .string x.key, .int .i64 x.value, .string x.text] 37 (0, 0) : Obj) from row_on b RY.out)
              have BW := below_then BW b
              clear b
              have RZ := hide (show W45.heap[W44.heap.size]? = some (.cells #[.string z.method, .string z.key, .int .i64 z.value, .string z.text] 37 (0, 0) : Obj) by rw [← hW45.out]; exact heap_new rfl)
              have EX := hide (show (W44.alloc (.cells #[.string z.method, .string z.key, .int .i64 z.value, .string z.text] 37 : Obj)).heap[W30.heap.size]? = some (.cells #[.string x.method, .string x.key, .int .i64 x.value, .string x.text] 37 (0, 0) : Obj) by rw [hW45.out]; exact RX.out)
              obtain ⟨_, _, _, _, _⟩ := four_cells EX.out
              have EY := hide (show (W44.alloc (.cells #[.string z.method, .string z.key, .int .i64 z.value, .string z.text] 37 : Obj)).heap[W33.heap.size]? = some (.cells #[.string x.method, .string x.key, .int .i64 x.value, .string x.text] 37 (0, 0) : Obj) by rw [hW45.out]; exact RY.out)
              obtain ⟨_, _, _, _, _⟩ := four_cells EY.out
              have EZ := hide (show (W44.alloc (.cells #[.string z.method, .string z.key, .int .i64 z.value, .string z.text] 37 : Obj)).heap[W44.heap.size]? = some (.cells #[.string z.method, .string z.key, .int .i64 z.value, .string z.text] 37 (0, 0) : Obj) by rw [hW45.out]; exact RZ.out)
              obtain ⟨_, _, _, _, _⟩ := four_cells EZ.out
              obtain ⟨_, _, _, _, _⟩ := four_cells RX.out
              obtain ⟨_, _, _, _, _⟩ := four_cells RY.out
              obtain ⟨_, _, _, _, _⟩ := four_cells RZ.out
              go_wp2_with fail
              rw [hW45.out]
              refine (iIsCall_c x _ HX.out.wf).mono ?_; rintro e W46 ⟨rfl, b⟩
              have RX := hide (show W46.heap[W30.heap.size]? = some (.cells #[.string x.method, .string x.key, .int .i64 x.value, .string x.text] 37 (0, 0) : Obj) from row_on b RX.out)
              have RY := hide (show W46.heap[W33.heap.size]? = some (.cells #[.string x.method, .string x.key, .int .i64 x.value, .string x.text] 37 (0, 0) : Obj) from row_on b RY.out)
              have RZ := hide (show W46.heap[W44.heap.size]? = some (.cells #[.string z.method, .string z.key, .int .i64 z.value, .string z.text] 37 (0, 0) : Obj) from row_on b RZ.out)
              have BW := below_then BW b
              clear b
              rw [hcx.out]
              obtain ⟨_, _, _, _, _⟩ := four_cells RX.out
              obtain ⟨_, _, _, _, _⟩ := four_cells RY.out
              obtain ⟨_, _, _, _, _⟩ := four_cells RZ.out
              have heq := fun w => eql_call x.value x.method x.method x.key x.key x.text x.text rfl rfl rfl w
              go_wp2
              skip
              go_ret
              exact ⟨rfl, BW⟩
            · skip
              obtain ⟨hzw, hzt⟩ := Pu.read_wf hs hps
              have hzs := hide (Pu.call_read hps)
              obtain ⟨z, hz⟩ : ∃ z, Hid (Pu.pcallC s = z) := ⟨_, rfl⟩
              rw [hz.out] at hzw hzt hzs ⊢
              have hps := hide hps
              unfold callV
              have HZW := hide hzw
              have HZT := hide hzt
              clear hzw hzt
              obtain ⟨W47, hW47⟩ : ∃ W, Hid (W44.alloc (.cells #[.string z.method, .string z.key, .int .i64 z.value, .string z.text] 37 : Obj) = W) := ⟨_, rfl⟩
              have b : Below W44.heap.size W44 W47 := by rw [← hW47.out]; exact below_alloc (Below.refl _ _) _
              have RX := hide (show W47.heap[W30.heap.size]? = some (.cells #[.string x.method, .string x.key, .int .i64 x.value, .string x.text] 37 (0, 0) : Obj) from row_on b RX.out)
              have RY := hide (show W47.heap[W33.heap.size]? = some (.cells #[.string x.method, .string x.key, .int .i64 x.value, .string x.text] 37 (0, 0) : Obj) from row_on b RY.out)
              have BW := below_then BW b
              clear b
              have RZ := hide (show W47.heap[W44.heap.size]? = some (.cells #[.string z.method, .string z.key, .int .i64 z.value, .string z.text] 37 (0, 0) : Obj) by rw [← hW47.out]; exact heap_new rfl)
              have EX := hide (show (W44.alloc (.cells #[.string z.method, .string z.key, .int .i64 z.value, .string z.text] 37 : Obj)).heap[W30.heap.size]? = some (.cells #[.string x.method, .string x.key, .int .i64 x.value, .string x.text] 37 (0, 0) : Obj) by rw [hW47.out]; exact RX.out)
              obtain ⟨_, _, _, _, _⟩ := four_cells EX.out
              have EY := hide (show (W44.alloc (.cells #[.string z.method, .string z.key, .int .i64 z.value, .string z.text] 37 : Obj)).heap[W33.heap.size]? = some (.cells #[.string x.method, .string x.key, .int .i64 x.value, .string x.text] 37 (0, 0) : Obj) by rw [hW47.out]; exact RY.out)
              obtain ⟨_, _, _, _, _⟩ := four_cells EY.out
              have EZ := hide (show (W44.alloc (.cells #[.string z.method, .string z.key, .int .i64 z.value, .string z.text] 37 : Obj)).heap[W44.heap.size]? = some (.cells #[.string z.method, .string z.key, .int .i64 z.value, .string z.text] 37 (0, 0) : Obj) by rw [hW47.out]; exact RZ.out)
              obtain ⟨_, _, _, _, _⟩ := four_cells EZ.out
              obtain ⟨_, _, _, _, _⟩ := four_cells RX.out
              obtain ⟨_, _, _, _, _⟩ := four_cells RY.out
              obtain ⟨_, _, _, _, _⟩ := four_cells RZ.out
              go_wp2_with fail
              rw [hW47.out]
              refine (iIsCall_c x _ HX.out.wf).mono ?_; rintro e W48 ⟨rfl, b⟩
              have RX := hide (show W48.heap[W30.heap.size]? = some (.cells #[.string x.method, .string x.key, .int .i64 x.value, .string x.text] 37 (0, 0) : Obj) from row_on b RX.out)
              have RY := hide (show W48.heap[W33.heap.size]? = some (.cells #[.string x.method, .string x.key, .int .i64 x.value, .string x.text] 37 (0, 0) : Obj) from row_on b RY.out)
              have RZ := hide (show W48.heap[W44.heap.size]? = some (.cells #[.string z.method, .string z.key, .int .i64 z.value, .string z.text] 37 (0, 0) : Obj) from row_on b RZ.out)
              have BW := below_then BW b
              clear b
              rw [hcx.out]
              obtain ⟨_, _, _, _, _⟩ := four_cells RX.out
              obtain ⟨_, _, _, _, _⟩ := four_cells RY.out
              obtain ⟨_, _, _, _, _⟩ := four_cells RZ.out
              have heq := fun w => eql_call x.value x.method x.method x.key x.key x.text x.text rfl rfl rfl w
              obtain ⟨_, _, _, _, _⟩ := four_cells RX.out
              obtain ⟨_, _, _, _, _⟩ := four_cells RY.out
              obtain ⟨_, _, _, _, _⟩ := four_cells RZ.out
              go_wp2_with fail
              refine (iFormatCall_c z _ (HT.out.below BW hlT) HZW.out HZT.out).mono ?_; rintro e W49 ⟨rfl, b⟩
              have RX := hide (show W49.heap[W30.heap.size]? = some (.cells #[.string x.method, .string x.key, .int .i64 x.value, .string x.text] 37 (0, 0) : Obj) from row_on b RX.out)
              have RY := hide (show W49.heap[W33.heap.size]? = some (.cells #[.string x.method, .string x.key, .int .i64 x.value, .string x.text] 37 (0, 0) : Obj) from row_on b RY.out)
              have RZ := hide (show W49.heap[W44.heap.size]? = some (.cells #[.string z.method, .string z.key, .int .i64 z.value, .string z.text] 37 (0, 0) : Obj) from row_on b RZ.out)
              have BW := below_then BW b
              clear b
              rw [hzs.out]
              have hss : (s.toList == s.toList) = true := by simp
              obtain ⟨_, _, _, _, _⟩ := four_cells RX.out
              obtain ⟨_, _, _, _, _⟩ := four_cells RY.out
              obtain ⟨_, _, _, _, _⟩ := four_cells RZ.out
              go_wp2
              go_ret
              exact ⟨rfl, BW⟩
  · go_enter Tryz.func5, Tryz.ntmps5
    go_wp2_with fail
    refine (big_c _ _ _ H0.out).mono ?_; rintro e w' ⟨rfl, rfl⟩
    rw [hbig]
    go_wp2
    go_ret
    exact ⟨rfl, Below.refl _ _⟩

/-- The laid heap meets the condition. -/
theorem door_met (os : Os) (args : Array Value) : laidMetH Tryz.prog Rows.fnCallTextRow.laid ((World.laidAll Tryz.prog os Rows.fnCallTextRow.laid).forCall (fun _ _ => 0) ⟨#[], args, []⟩).memory := by
  rw [MakeChecks.laidMetH_plain _ _ _ (by kernel_rfl)]
  exact laidMet_laidAll _ (by kernel_rfl) (by kernel_rfl)

set_option maxRecDepth 100000 in
theorem lifted (os : Os) (started : os.Started) (H : Type) (enc : TypeId × Value → H) :
    ReturnsInHanded {} Tryz.checked os 5 .any (fun w args => (Rows.fnCallTextSpec.pre enc Tryz.prog Tryz.f5 [] false w args ∧ laidMetH Tryz.prog Rows.fnCallTextRow.laid w) ∧ sizedMet enc Tryz.prog Tryz.f5 (OpenSpec.ofChange Rows.fnCallTextSpec) false w args) (Rows.fnCallTextSpec.post enc Tryz.prog Tryz.f5 false true false false) := by
  refine wrapV (C := Tryz.checked) (X := fun w _ => laidMetH Tryz.prog Rows.fnCallTextRow.laid w) (fun _ _ _ hh h => h.of_heap hh) own started (by kernel_rfl) Tryz.func5
    (ChangeSpec.witness_shaped (enc := enc) (C := Tryz.checked) (os := os) (X := fun w _ => laidMetH Tryz.prog Rows.fnCallTextRow.laid w) false (World.laidAll Tryz.prog os Rows.fnCallTextRow.laid) #[.slice none 0 0] 8 (World.laidAll_os _ _ _) (World.shaped_of_ZipB (by kernel_rfl) (by kernel_rfl)) (by kernel_rfl) (by kernel_rfl) (by kernel_rfl) (door_met os _)) ?_
  intro W base args ds gs before hval0 hW hL hS
  have hval : ∀ (j : Nat) t v, Tryz.f5.params[j]? = some t → args[j]? = some v → Value.okWide Tryz.prog W .any base t v := hval0
  have hW' := hW
  obtain ⟨p, q, hA0, hV, rfl, hfz, hnd⟩ := hW
  have hA : DataW.TrodAll enc Tryz.prog W 0 (fun _ => true) true Tryz.f5.params.toList args.toList ds p := hA0
  rw [Tryz.params5] at hA hval
  obtain ⟨v0, vs0, d0, ds0, p0, q0, hargs, rfl, rfl, h0, r0⟩ := trodAll_cons hA
  obtain ⟨rfl, rfl, rfl⟩ := trodAll_nil r0
  obtain rfl : args = #[v0] := by cases args; simp_all
  obtain ⟨rfl, rfl⟩ := trodVars_none hV
  obtain ⟨a0, hv0⟩ := open_bytes (hval 0 55 v0 rfl rfl) h0
  refine (walk W (pow10_of (met_reads hL (by kernel_rfl) (.tail _ (.tail _ (.head _))))) (errsyn_of (met_reads hL (by kernel_rfl) (.tail _ (.tail _ (.tail _ (.tail _ (.tail _ (.head _)))))))) (maxc_of hS) v0 a0 hv0).mono fun e W' ⟨he, hg⟩ => ?_
  subst he
  exact ⟨_, rfl, law_postV (tb := 4) (by kernel_rfl) (by kernel_rfl) (by kernel_rfl) hW' hg rfl Tryz.underlying4 rfl rfl rfl⟩

theorem over : Rows.FnCallTextSaid :=
  OpenClaim.holds_of_wide 5 Tryz.f5 rfl rfl rfl rfl rfl rfl rfl ⟨rfl, rfl, rfl, rfl, rfl⟩ rfl rfl rfl rfl rfl (by kernel_rfl) Tryz.func5 (by kernel_rfl)
    (of_decide_eq_true (by kernel_rfl)) (by unfold Func.isWrapper; first | (rw [if_pos (by decide +kernel)]; kernel_rfl) | (rw [if_neg (by decide +kernel)]; exact ⟨rfl, rfl⟩))
    (fun os started H enc _ => lifted os started H enc)

/-- The statement: the tied card. -/
theorem proved : Rows.FnCallTextCardSaid :=
  Claim7.holds_tied_plain_at .later [] [.data, .data, .data, .data, .sentinel, .sentinel, .pinned] true (true, "15f444c23c93b2403839749698f01a757c47729f86feb889b0929fa11f9b21ff") true over (fun _ h => by cases h) (by kernel_rfl) (fun _ h => by cases h) fnCallText_row_tie rfl ⟨rfl, rfl⟩ (by kernel_rfl) rfl
    (fun f fn hf hfn => by
      obtain rfl : 5 = f := Option.some.inj ((show Tryz.prog.funcNamed Rows.fnCallTextRow.func = some 5 by kernel_rfl).symm.trans hf)
      obtain rfl : Tryz.f5 = fn := Option.some.inj (Tryz.func5.symm.trans hfn)
      exact ⟨by kernel_rfl, fun j t ht => by
        rw [Tryz.params5] at ht
        have hm : t ∈ [55] := by simpa using Array.mem_of_getElem? ht
        have hall : ([55].all fun u => !Tryz.prog.wantsStandIn u) = true := by kernel_rfl
        exact (show Tryz.prog.wantsStandIn t = false by simpa using List.all_eq_true.1 hall t hm)⟩)
    (by kernel_rfl)
#print axioms proved
end Go.Proofs.YtllmcnmongaahaaGreatDoor.fnCallText
