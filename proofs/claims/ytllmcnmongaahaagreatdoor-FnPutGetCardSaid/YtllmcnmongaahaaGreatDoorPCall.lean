/- Contracts: calls read from a text. -/
import Derived.Test.YtllmcnmongaahaaGreatDoorM1
import Derived.Test.YtllmcnmongaahaaGreatDoorPCells
namespace Go.Proofs.YtllmcnmongaahaaGreatDoor
open Go.ChangeShapes Go.WideShapes Go.ChangeAt Go.RowKit
set_option maxRecDepth 100000
theorem Pu.cutA_size (p : ByteArray) : (Pu.cutA p).size ≤ p.size := by
  have e : (Pu.cutA p).size = (Lib.cut p.data.toList [32]).1.length := rfl
  rw [e, Lib.cut]
  split
  · simp only [List.length_take]
    have : p.data.toList.length = p.size := rfl
    omega
  · exact Nat.le_refl _
theorem Pu.cutR_size (p : ByteArray) : (Pu.cutR p).size ≤ p.size := by
  have e : (Pu.cutR p).size = (Lib.cut p.data.toList [32]).2.1.length := rfl
  rw [e, Lib.cut]
  split
  · simp only [List.length_drop]
    have : p.data.toList.length = p.size := rfl
    omega
  · simp
/-- the test of a candidate, of known parts -/
theorem Pu.pcall_of {s : ByteArray} {c : Pu.CallD} (hc : Pu.candI s = c) : Pu.pcallB s = Pu.goodC c s ∧ Pu.pcallC s = if Pu.goodC c s then c else Pu.nulC := by
  rw [Pu.pcallC, Pu.pcallB, hc]
  exact ⟨rfl, rfl⟩
theorem row4_set {w : World} {g : Nat} {t : TypeId} {a b c d u : Value} (h : w.heap[g]? = some (.cells #[a, b, c, d] t (0, 0))) :
    (w.setCell ⟨g, 1, none⟩ u).heap[g]? = some (.cells #[a, u, c, d] t (0, 0)) ∧ (w.setCell ⟨g, 2, none⟩ u).heap[g]? = some (.cells #[a, b, u, d] t (0, 0)) ∧ (w.setCell ⟨g, 3, none⟩ u).heap[g]? = some (.cells #[a, b, c, u] t (0, 0)) :=
  ⟨heap_setCell_same w g 1 _ _ _ h, heap_setCell_same w g 2 _ _ _ h, heap_setCell_same w g 3 _ _ _ h⟩
theorem row_far {w : World} {g g' j : Nat} {o : Obj} {u : Value} (h : w.heap[g]? = some o) (hne : g' ≠ g) : (w.setCell ⟨g', j, none⟩ u).heap[g]? = some o :=
  (Below.heap_setCell w ⟨g', j, none⟩ u g (fun e => hne e.symm)).trans h
theorem row_b {w w' : World} {g : Nat} {o : Obj} (hb : Below w.heap.size w w') (h : w.heap[g]? = some o) : w'.heap[g]? = some o :=
  (hb.block g (Array.getElem?_eq_some_iff.1 h).1).trans h
theorem cutSp_c (p : ByteArray) (w : World) (hM : MaxC w) (hp : p.size ≤ 16777216) :
    Calls Tryz.prog 68 #[.string p, .string ⟨#[32]⟩] w fun e w' => ∃ q : Bool, e = .returned (.tuple #[.string (Pu.cutA p), .string (Pu.cutR p), .bool q]) ∧ Below w.heap.size w w' := by
  obtain ⟨m, hm⟩ := hM
  refine (Tryz.strings_Cut p ⟨#[32]⟩ m w (by omega) hm).mono ?_
  rintro e w' ⟨rfl, n, rfl⟩
  exact ⟨_, rfl, below_drewN (Below.refl _ _) n⟩
set_option maxHeartbeats 4000000 in
theorem iParseCall_c (s : ByteArray) (w : World) (hM : MaxC w) (hT : Pow10 w) (hE : ErrSyn w) (hs : s.size ≤ 1048576) :
    Calls Tryz.prog 37 #[.string s] w fun e w' => e = .returned (.tuple #[callV (Pu.pcallC s), .bool (Pu.pcallB s)]) ∧ Below w.heap.size w w' := by
  have hlM := hM.lt
  have hlT := hT.lt
  have hlE := hE.lt
  have HM := hide hM
  have HT := hide hT
  have HE := hide hE
  clear hM hT hE
  have hmz := Pu.cutA_size s
  have hrz := Pu.cutR_size s
  obtain ⟨m, HMM⟩ : ∃ m, Hid (Pu.cutA s = m) := ⟨_, rfl⟩
  obtain ⟨r, HR⟩ : ∃ r, Hid (Pu.cutR s = r) := ⟨_, rfl⟩
  rw [HMM.out] at hmz
  rw [HR.out] at hrz
  obtain ⟨G, hG⟩ : ∃ b, (m.toList == [71, 101, 116]) = b := ⟨_, rfl⟩
  obtain ⟨P, hP⟩ : ∃ b, (m.toList == [80, 117, 116]) = b := ⟨_, rfl⟩
  obtain ⟨H, hH⟩ : ∃ b, (m.toList == [72, 101, 97, 114]) = b := ⟨_, rfl⟩
  obtain ⟨L, hL⟩ : ∃ b, (m.toList == [76, 111, 97, 100]) = b := ⟨_, rfl⟩
  have hm := Pu.method_cases m.toList
  simp only [Pu.mGet, Pu.mPut, Pu.mHear, Pu.mLoad, hG, hP, hH, hL] at hm
  have HI : Hid (Pu.candI s = Pu.candF G P H L m r) := by rw [Hid, Pu.candI, HMM.out, HR.out, Pu.mGet, Pu.mPut, Pu.mHear, Pu.mLoad, hG, hP, hH, hL]
  obtain ⟨w0, hw0⟩ : ∃ w0, Hid (w.alloc (.cells #[.string ⟨#[]⟩, .string ⟨#[]⟩, .int .i64 0, .string ⟨#[]⟩] 37 : Obj) = w0) := ⟨_, rfl⟩
  have b0 : Below w.heap.size w w0 := by rw [← hw0.out]; exact below_alloc (Below.refl _ _) _
  have Y0 := hide (show w0.heap[w.heap.size]? = some (.cells #[.string ⟨#[]⟩, .string ⟨#[]⟩, .int .i64 0, .string ⟨#[]⟩] 37 : Obj) by rw [← hw0.out]; exact heap_new rfl)
  have hL0 : w.heap.size < w0.heap.size := by rw [← hw0.out]; simp
  rcases hm with ⟨rfl, rfl, rfl, rfl⟩ | ⟨rfl, rfl, rfl, rfl⟩ | ⟨rfl, rfl, rfl, rfl⟩ | ⟨rfl, rfl, rfl, rfl⟩ | ⟨rfl, rfl, rfl, rfl⟩
  · go_enter Tryz.func37, Tryz.ntmps37
    go_wp2_with fail
    rw [hw0.out]
    refine (cutSp_c s _ (HM.out.below b0 hlM) (by omega)).mono ?_; rintro e w1 ⟨q, rfl, b1⟩
    rw [HMM.out, HR.out]
    have B1 := below_then b0 b1
    have Y1 := hide (row_b b1 Y0.out)
    have hL1 : w.heap.size < w1.heap.size := Nat.lt_of_lt_of_le hL0 b1.size
    obtain ⟨w2, hw2⟩ : ∃ w2, Hid (w1.alloc (.cells #[.string m, .string r, .int .i64 0, .string ⟨#[]⟩] 37 : Obj) = w2) := ⟨_, rfl⟩
    have b2 : Below w1.heap.size w1 w2 := by rw [← hw2.out]; exact below_alloc (Below.refl _ _) _
    have B2 : Below w.heap.size w w2 := below_then B1 b2
    have X2 := hide (show w2.heap[w1.heap.size]? = some (.cells #[.string m, .string r, .int .i64 0, .string ⟨#[]⟩] 37 : Obj) by rw [← hw2.out]; exact heap_new rfl)
    have Y2 := hide (row_b b2 Y1.out)
    have hL2 : w1.heap.size < w2.heap.size := by rw [← hw2.out]; simp
    clear b1 b2
    go_wp2_with fail
    rw [hw2.out]
    have HC : Hid (Pu.candI s = (⟨m, r, 0, ⟨#[]⟩⟩ : Pu.CallD)) := HI.out
    have HPC := hide (Pu.pcall_of HC.out)
    have hwf : CallD.wf (⟨m, r, 0, ⟨#[]⟩⟩ : Pu.CallD) := ⟨by show m.size ≤ maxLen; unfold maxLen; omega, by show (r : ByteArray).size ≤ maxLen; unfold maxLen; first | omega | decide, WalkArith.wf_i64 (by show -9223372036854775808 ≤ (0 : Int) ∧ (0 : Int) ≤ 9223372036854775807; first | omega | decide), by show (⟨#[]⟩ : ByteArray).size ≤ maxLen; unfold maxLen; first | omega | decide⟩
    have HWF := hide hwf
    have htx : ((⟨m, r, 0, ⟨#[]⟩⟩ : Pu.CallD)).text.size ≤ 1048576 := by show (⟨#[]⟩ : ByteArray).size ≤ 1048576; first | omega | decide
    have HTX := hide htx
    clear hwf htx HI HC
    refine (iIsCall_c (⟨m, r, 0, ⟨#[]⟩⟩ : Pu.CallD) _ HWF.out).mono ?_; rintro e w5 ⟨rfl, b5⟩
    have B5 := below_then B2 b5
    have X5 := hide (row_b b5 X2.out)
    have Y5 := hide (row_b b5 Y2.out)
    have hne5 : ¬ w1.heap.size = w.heap.size := by omega
    clear b5
    rcases hb : Pu.callB (⟨m, r, 0, ⟨#[]⟩⟩ : Pu.CallD) with _ | _
    · have HG : Pu.goodC (⟨m, r, 0, ⟨#[]⟩⟩ : Pu.CallD) s = false := by rw [Pu.goodC, hb]; rfl
      obtain ⟨x0, x1, x2, x3, xf⟩ := four_cells X5.out
      obtain ⟨y0, y1, y2, y3, yf⟩ := four_cells Y5.out
      go_wp2_with fail
      have HB9 := (((B5.setCell (p := ⟨w.heap.size, 0, none⟩) (Nat.le_refl _) (Value.string ⟨#[]⟩)).setCell (p := ⟨w.heap.size, 1, none⟩) (Nat.le_refl _) (Value.string ⟨#[]⟩)).setCell (p := ⟨w.heap.size, 2, none⟩) (Nat.le_refl _) (Value.int .i64 0)).setCell (p := ⟨w.heap.size, 3, none⟩) (Nat.le_refl _) (Value.string ⟨#[]⟩)
      exact bodyPost_ret (v := .tuple #[.agg #[Value.string ⟨#[]⟩, Value.string ⟨#[]⟩, Value.int .i64 0, Value.string ⟨#[]⟩], .bool false]) (by simp [results, Tryz.results37, go_sem, y0, y1, y2, y3]) rfl ⟨by rw [HPC.out.1, HPC.out.2, HG]; rfl, HB9⟩
    · obtain ⟨_, _, _, _, _⟩ := four_cells X5.out
      go_wp2_with fail
      refine (iFormatCall_c (⟨m, r, 0, ⟨#[]⟩⟩ : Pu.CallD) _ (HT.out.below B5 hlT) HWF.out HTX.out).mono ?_; rintro e w6 ⟨rfl, b6⟩
      have B6 := below_then B5 b6
      have X6 := hide (row_b b6 X5.out)
      have Y6 := hide (row_b b6 Y5.out)
      clear b6
      rcases he : ((Pu.callT (⟨m, r, 0, ⟨#[]⟩⟩ : Pu.CallD)).toList == s.toList) with _ | _
      · have HG : Pu.goodC (⟨m, r, 0, ⟨#[]⟩⟩ : Pu.CallD) s = false := by rw [Pu.goodC, hb, he]; rfl
        obtain ⟨x0, x1, x2, x3, xf⟩ := four_cells X6.out
        obtain ⟨y0, y1, y2, y3, yf⟩ := four_cells Y6.out
        go_wp2_with fail
        have HB9 := (((B6.setCell (p := ⟨w.heap.size, 0, none⟩) (Nat.le_refl _) (Value.string ⟨#[]⟩)).setCell (p := ⟨w.heap.size, 1, none⟩) (Nat.le_refl _) (Value.string ⟨#[]⟩)).setCell (p := ⟨w.heap.size, 2, none⟩) (Nat.le_refl _) (Value.int .i64 0)).setCell (p := ⟨w.heap.size, 3, none⟩) (Nat.le_refl _) (Value.string ⟨#[]⟩)
        exact bodyPost_ret (v := .tuple #[.agg #[Value.string ⟨#[]⟩, Value.string ⟨#[]⟩, Value.int .i64 0, Value.string ⟨#[]⟩], .bool false]) (by simp [results, Tryz.results37, go_sem, y0, y1, y2, y3]) rfl ⟨by rw [HPC.out.1, HPC.out.2, HG]; rfl, HB9⟩
      · have HG : Pu.goodC (⟨m, r, 0, ⟨#[]⟩⟩ : Pu.CallD) s = true := by rw [Pu.goodC, hb, he]; rfl
        obtain ⟨x0, x1, x2, x3, xf⟩ := four_cells X6.out
        obtain ⟨y0, y1, y2, y3, yf⟩ := four_cells Y6.out
        go_wp2_with fail
        have HB9 := (((B6.setCell (p := ⟨w.heap.size, 0, none⟩) (Nat.le_refl _) (Value.string m)).setCell (p := ⟨w.heap.size, 1, none⟩) (Nat.le_refl _) (Value.string r)).setCell (p := ⟨w.heap.size, 2, none⟩) (Nat.le_refl _) (Value.int .i64 0)).setCell (p := ⟨w.heap.size, 3, none⟩) (Nat.le_refl _) (Value.string ⟨#[]⟩)
        exact bodyPost_ret (v := .tuple #[.agg #[Value.string m, Value.string r, Value.int .i64 0, Value.string ⟨#[]⟩], .bool true]) (by simp [results, Tryz.results37, go_sem, y0, y1, y2, y3]) rfl ⟨by rw [HPC.out.1, HPC.out.2, HG]; rfl, HB9⟩
  · go_enter Tryz.func37, Tryz.ntmps37
    go_wp2_with fail
    rw [hw0.out]
    refine (cutSp_c s _ (HM.out.below b0 hlM) (by omega)).mono ?_; rintro e w1 ⟨q, rfl, b1⟩
    rw [HMM.out, HR.out]
    have B1 := below_then b0 b1
    have Y1 := hide (row_b b1 Y0.out)
    have hL1 : w.heap.size < w1.heap.size := Nat.lt_of_lt_of_le hL0 b1.size
    obtain ⟨w2, hw2⟩ : ∃ w2, Hid (w1.alloc (.cells #[.string m, .string ⟨#[]⟩, .int .i64 0, .string ⟨#[]⟩] 37 : Obj) = w2) := ⟨_, rfl⟩
    have b2 : Below w1.heap.size w1 w2 := by rw [← hw2.out]; exact below_alloc (Below.refl _ _) _
    have B2 : Below w.heap.size w w2 := below_then B1 b2
    have X2 := hide (show w2.heap[w1.heap.size]? = some (.cells #[.string m, .string ⟨#[]⟩, .int .i64 0, .string ⟨#[]⟩] 37 : Obj) by rw [← hw2.out]; exact heap_new rfl)
    have Y2 := hide (row_b b2 Y1.out)
    have hL2 : w1.heap.size < w2.heap.size := by rw [← hw2.out]; simp
    clear b1 b2
    go_wp2_with fail
    rw [hw2.out]
    refine (cutSp_c r _ (HM.out.below B2 hlM) (by omega)).mono ?_; rintro e w3 ⟨q2, rfl, b3⟩
    have hkz := Pu.cutA_size r
    obtain ⟨K, HK⟩ : ∃ K, Hid (Pu.cutA r = K) := ⟨_, rfl⟩
    rw [HK.out] at hkz ⊢
    have B3 := (below_then B2 b3).setCell (p := ⟨w1.heap.size, 1, none⟩) (by show w.heap.size ≤ w1.heap.size; omega) (Value.string K)
    have X3 := hide (row_b b3 X2.out)
    have Y3 := hide (row_far (g' := w1.heap.size) (j := 1) (u := Value.string K) (row_b b3 Y2.out) (by omega))
    have X4 := hide (row4_set (u := Value.string K) X3.out).1
    obtain ⟨_, _, _, _, _⟩ := four_cells X3.out
    clear b3
    go_wp2_with fail
    refine (iParseNumber_c _ _ (HT.out.below B3 hlT) (HE.out.below B3 hlE)).mono ?_; rintro e w4 ⟨rfl, b4⟩
    have hnb := Pu.pn_bd (Pu.cutR r).toList
    obtain ⟨N, HN⟩ : ∃ N, Hid (Pu.pnV (Pu.cutR r).toList = N) := ⟨_, rfl⟩
    rw [HN.out] at hnb ⊢
    have hI2 : Pu.candI s = ⟨m, K, N, ⟨#[]⟩⟩ := by rw [← HN.out, ← HK.out]; exact HI.out
    replace HI := hide hI2
    have B4 := (below_then B3 b4).setCell (p := ⟨w1.heap.size, 2, none⟩) (by show w.heap.size ≤ w1.heap.size; omega) (Value.int .i64 N)
    have X5' := hide (row_b b4 X4.out)
    have Y4 := hide (row_far (g' := w1.heap.size) (j := 2) (u := Value.int .i64 N) (row_b b4 Y3.out) (by omega))
    have X6' := hide (row4_set (u := Value.int .i64 N) X5'.out).2.1
    obtain ⟨_, _, _, _, _⟩ := four_cells X5'.out
    clear b4
    go_wp2_with fail
    have HC : Hid (Pu.candI s = (⟨m, K, N, ⟨#[]⟩⟩ : Pu.CallD)) := HI.out
    have HPC := hide (Pu.pcall_of HC.out)
    have hwf : CallD.wf (⟨m, K, N, ⟨#[]⟩⟩ : Pu.CallD) := ⟨by show m.size ≤ maxLen; unfold maxLen; omega, by show (K : ByteArray).size ≤ maxLen; unfold maxLen; first | omega | decide, WalkArith.wf_i64 (by show -9223372036854775808 ≤ (N : Int) ∧ (N : Int) ≤ 9223372036854775807; first | omega | decide), by show (⟨#[]⟩ : ByteArray).size ≤ maxLen; unfold maxLen; first | omega | decide⟩
    have HWF := hide hwf
    have htx : ((⟨m, K, N, ⟨#[]⟩⟩ : Pu.CallD)).text.size ≤ 1048576 := by show (⟨#[]⟩ : ByteArray).size ≤ 1048576; first | omega | decide
    have HTX := hide htx
    clear hwf htx HI HC
    refine (iIsCall_c (⟨m, K, N, ⟨#[]⟩⟩ : Pu.CallD) _ HWF.out).mono ?_; rintro e w5 ⟨rfl, b5⟩
    have B5 := below_then B4 b5
    have X5 := hide (row_b b5 X6'.out)
    have Y5 := hide (row_b b5 Y4.out)
    have hne5 : ¬ w1.heap.size = w.heap.size := by omega
    clear b5
    rcases hb : Pu.callB (⟨m, K, N, ⟨#[]⟩⟩ : Pu.CallD) with _ | _
    · have HG : Pu.goodC (⟨m, K, N, ⟨#[]⟩⟩ : Pu.CallD) s = false := by rw [Pu.goodC, hb]; rfl
      obtain ⟨x0, x1, x2, x3, xf⟩ := four_cells X5.out
      obtain ⟨y0, y1, y2, y3, yf⟩ := four_cells Y5.out
      go_wp2_with fail
      have HB9 := (((B5.setCell (p := ⟨w.heap.size, 0, none⟩) (Nat.le_refl _) (Value.string ⟨#[]⟩)).setCell (p := ⟨w.heap.size, 1, none⟩) (Nat.le_refl _) (Value.string ⟨#[]⟩)).setCell (p := ⟨w.heap.size, 2, none⟩) (Nat.le_refl _) (Value.int .i64 0)).setCell (p := ⟨w.heap.size, 3, none⟩) (Nat.le_refl _) (Value.string ⟨#[]⟩)
      exact bodyPost_ret (v := .tuple #[.agg #[Value.string ⟨#[]⟩, Value.string ⟨#[]⟩, Value.int .i64 0, Value.string ⟨#[]⟩], .bool false]) (by simp [results, Tryz.results37, go_sem, y0, y1, y2, y3]) rfl ⟨by rw [HPC.out.1, HPC.out.2, HG]; rfl, HB9⟩
    · obtain ⟨_, _, _, _, _⟩ := four_cells X5.out
      go_wp2_with fail
      refine (iFormatCall_c (⟨m, K, N, ⟨#[]⟩⟩ : Pu.CallD) _ (HT.out.below B5 hlT) HWF.out HTX.out).mono ?_; rintro e w6 ⟨rfl, b6⟩
      have B6 := below_then B5 b6
      have X6 := hide (row_b b6 X5.out)
      have Y6 := hide (row_b b6 Y5.out)
      clear b6
      rcases he : ((Pu.callT (⟨m, K, N, ⟨#[]⟩⟩ : Pu.CallD)).toList == s.toList) with _ | _
      · have HG : Pu.goodC (⟨m, K, N, ⟨#[]⟩⟩ : Pu.CallD) s = false := by rw [Pu.goodC, hb, he]; rfl
        obtain ⟨x0, x1, x2, x3, xf⟩ := four_cells X6.out
        obtain ⟨y0, y1, y2, y3, yf⟩ := four_cells Y6.out
        go_wp2_with fail
        have HB9 := (((B6.setCell (p := ⟨w.heap.size, 0, none⟩) (Nat.le_refl _) (Value.string ⟨#[]⟩)).setCell (p := ⟨w.heap.size, 1, none⟩) (Nat.le_refl _) (Value.string ⟨#[]⟩)).setCell (p := ⟨w.heap.size, 2, none⟩) (Nat.le_refl _) (Value.int .i64 0)).setCell (p := ⟨w.heap.size, 3, none⟩) (Nat.le_refl _) (Value.string ⟨#[]⟩)
        exact bodyPost_ret (v := .tuple #[.agg #[Value.string ⟨#[]⟩, Value.string ⟨#[]⟩, Value.int .i64 0, Value.string ⟨#[]⟩], .bool false]) (by simp [results, Tryz.results37, go_sem, y0, y1, y2, y3]) rfl ⟨by rw [HPC.out.1, HPC.out.2, HG]; rfl, HB9⟩
      · have HG : Pu.goodC (⟨m, K, N, ⟨#[]⟩⟩ : Pu.CallD) s = true := by rw [Pu.goodC, hb, he]; rfl
        obtain ⟨x0, x1, x2, x3, xf⟩ := four_cells X6.out
        obtain ⟨y0, y1, y2, y3, yf⟩ := four_cells Y6.out
        go_wp2_with fail
        have HB9 := (((B6.setCell (p := ⟨w.heap.size, 0, none⟩) (Nat.le_refl _) (Value.string m)).setCell (p := ⟨w.heap.size, 1, none⟩) (Nat.le_refl _) (Value.string K)).setCell (p := ⟨w.heap.size, 2, none⟩) (Nat.le_refl _) (Value.int .i64 N)).setCell (p := ⟨w.heap.size, 3, none⟩) (Nat.le_refl _) (Value.string ⟨#[]⟩)
        exact bodyPost_ret (v := .tuple #[.agg #[Value.string m, Value.string K, Value.int .i64 N, Value.string ⟨#[]⟩], .bool true]) (by simp [results, Tryz.results37, go_sem, y0, y1, y2, y3]) rfl ⟨by rw [HPC.out.1, HPC.out.2, HG]; rfl, HB9⟩
  · go_enter Tryz.func37, Tryz.ntmps37
    go_wp2_with fail
    rw [hw0.out]
    refine (cutSp_c s _ (HM.out.below b0 hlM) (by omega)).mono ?_; rintro e w1 ⟨q, rfl, b1⟩
    rw [HMM.out, HR.out]
    have B1 := below_then b0 b1
    have Y1 := hide (row_b b1 Y0.out)
    have hL1 : w.heap.size < w1.heap.size := Nat.lt_of_lt_of_le hL0 b1.size
    obtain ⟨w2, hw2⟩ : ∃ w2, Hid (w1.alloc (.cells #[.string m, .string ⟨#[]⟩, .int .i64 0, .string ⟨#[]⟩] 37 : Obj) = w2) := ⟨_, rfl⟩
    have b2 : Below w1.heap.size w1 w2 := by rw [← hw2.out]; exact below_alloc (Below.refl _ _) _
    have B2 : Below w.heap.size w w2 := below_then B1 b2
    have X2 := hide (show w2.heap[w1.heap.size]? = some (.cells #[.string m, .string ⟨#[]⟩, .int .i64 0, .string ⟨#[]⟩] 37 : Obj) by rw [← hw2.out]; exact heap_new rfl)
    have Y2 := hide (row_b b2 Y1.out)
    have hL2 : w1.heap.size < w2.heap.size := by rw [← hw2.out]; simp
    clear b1 b2
    go_wp2_with fail
    rw [hw2.out]
    refine (iParseNumber_c r _ (HT.out.below B2 hlT) (HE.out.below B2 hlE)).mono ?_; rintro e w3 ⟨rfl, b3⟩
    have hnb := Pu.pn_bd r.toList
    obtain ⟨N, HN⟩ : ∃ N, Hid (Pu.pnV r.toList = N) := ⟨_, rfl⟩
    rw [HN.out] at hnb ⊢
    have hI2 : Pu.candI s = ⟨m, ⟨#[]⟩, N, ⟨#[]⟩⟩ := by rw [← HN.out]; exact HI.out
    replace HI := hide hI2
    have B3 := (below_then B2 b3).setCell (p := ⟨w1.heap.size, 2, none⟩) (by show w.heap.size ≤ w1.heap.size; omega) (Value.int .i64 N)
    have X3 := hide (row_b b3 X2.out)
    have Y3 := hide (row_far (g' := w1.heap.size) (j := 2) (u := Value.int .i64 N) (row_b b3 Y2.out) (by omega))
    have X4 := hide (row4_set (u := Value.int .i64 N) X3.out).2.1
    obtain ⟨_, _, _, _, _⟩ := four_cells X3.out
    clear b3
    go_wp2_with fail
    have HC : Hid (Pu.candI s = (⟨m, ⟨#[]⟩, N, ⟨#[]⟩⟩ : Pu.CallD)) := HI.out
    have HPC := hide (Pu.pcall_of HC.out)
    have hwf : CallD.wf (⟨m, ⟨#[]⟩, N, ⟨#[]⟩⟩ : Pu.CallD) := ⟨by show m.size ≤ maxLen; unfold maxLen; omega, by show (⟨#[]⟩ : ByteArray).size ≤ maxLen; unfold maxLen; first | omega | decide, WalkArith.wf_i64 (by show -9223372036854775808 ≤ (N : Int) ∧ (N : Int) ≤ 9223372036854775807; first | omega | decide), by show (⟨#[]⟩ : ByteArray).size ≤ maxLen; unfold maxLen; first | omega | decide⟩
    have HWF := hide hwf
    have htx : ((⟨m, ⟨#[]⟩, N, ⟨#[]⟩⟩ : Pu.CallD)).text.size ≤ 1048576 := by show (⟨#[]⟩ : ByteArray).size ≤ 1048576; first | omega | decide
    have HTX := hide htx
    clear hwf htx HI HC
    refine (iIsCall_c (⟨m, ⟨#[]⟩, N, ⟨#[]⟩⟩ : Pu.CallD) _ HWF.out).mono ?_; rintro e w5 ⟨rfl, b5⟩
    have B5 := below_then B3 b5
    have X5 := hide (row_b b5 X4.out)
    have Y5 := hide (row_b b5 Y3.out)
    have hne5 : ¬ w1.heap.size = w.heap.size := by omega
    clear b5
    rcases hb : Pu.callB (⟨m, ⟨#[]⟩, N, ⟨#[]⟩⟩ : Pu.CallD) with _ | _
    · have HG : Pu.goodC (⟨m, ⟨#[]⟩, N, ⟨#[]⟩⟩ : Pu.CallD) s = false := by rw [Pu.goodC, hb]; rfl
      obtain ⟨x0, x1, x2, x3, xf⟩ := four_cells X5.out
      obtain ⟨y0, y1, y2, y3, yf⟩ := four_cells Y5.out
      go_wp2_with fail
      have HB9 := (((B5.setCell (p := ⟨w.heap.size, 0, none⟩) (Nat.le_refl _) (Value.string ⟨#[]⟩)).setCell (p := ⟨w.heap.size, 1, none⟩) (Nat.le_refl _) (Value.string ⟨#[]⟩)).setCell (p := ⟨w.heap.size, 2, none⟩) (Nat.le_refl _) (Value.int .i64 0)).setCell (p := ⟨w.heap.size, 3, none⟩) (Nat.le_refl _) (Value.string ⟨#[]⟩)
      exact bodyPost_ret (v := .tuple #[.agg #[Value.string ⟨#[]⟩, Value.string ⟨#[]⟩, Value.int .i64 0, Value.string ⟨#[]⟩], .bool false]) (by simp [results, Tryz.results37, go_sem, y0, y1, y2, y3]) rfl ⟨by rw [HPC.out.1, HPC.out.2, HG]; rfl, HB9⟩
    · obtain ⟨_, _, _, _, _⟩ := four_cells X5.out
      go_wp2_with fail
      refine (iFormatCall_c (⟨m, ⟨#[]⟩, N, ⟨#[]⟩⟩ : Pu.CallD) _ (HT.out.below B5 hlT) HWF.out HTX.out).mono ?_; rintro e w6 ⟨rfl, b6⟩
      have B6 := below_then B5 b6
      have X6 := hide (row_b b6 X5.out)
      have Y6 := hide (row_b b6 Y5.out)
      clear b6
      rcases he : ((Pu.callT (⟨m, ⟨#[]⟩, N, ⟨#[]⟩⟩ : Pu.CallD)).toList == s.toList) with _ | _
      · have HG : Pu.goodC (⟨m, ⟨#[]⟩, N, ⟨#[]⟩⟩ : Pu.CallD) s = false := by rw [Pu.goodC, hb, he]; rfl
        obtain ⟨x0, x1, x2, x3, xf⟩ := four_cells X6.out
        obtain ⟨y0, y1, y2, y3, yf⟩ := four_cells Y6.out
        go_wp2_with fail
        have HB9 := (((B6.setCell (p := ⟨w.heap.size, 0, none⟩) (Nat.le_refl _) (Value.string ⟨#[]⟩)).setCell (p := ⟨w.heap.size, 1, none⟩) (Nat.le_refl _) (Value.string ⟨#[]⟩)).setCell (p := ⟨w.heap.size, 2, none⟩) (Nat.le_refl _) (Value.int .i64 0)).setCell (p := ⟨w.heap.size, 3, none⟩) (Nat.le_refl _) (Value.string ⟨#[]⟩)
        exact bodyPost_ret (v := .tuple #[.agg #[Value.string ⟨#[]⟩, Value.string ⟨#[]⟩, Value.int .i64 0, Value.string ⟨#[]⟩], .bool false]) (by simp [results, Tryz.results37, go_sem, y0, y1, y2, y3]) rfl ⟨by rw [HPC.out.1, HPC.out.2, HG]; rfl, HB9⟩
      · have HG : Pu.goodC (⟨m, ⟨#[]⟩, N, ⟨#[]⟩⟩ : Pu.CallD) s = true := by rw [Pu.goodC, hb, he]; rfl
        obtain ⟨x0, x1, x2, x3, xf⟩ := four_cells X6.out
        obtain ⟨y0, y1, y2, y3, yf⟩ := four_cells Y6.out
        go_wp2_with fail
        have HB9 := (((B6.setCell (p := ⟨w.heap.size, 0, none⟩) (Nat.le_refl _) (Value.string m)).setCell (p := ⟨w.heap.size, 1, none⟩) (Nat.le_refl _) (Value.string ⟨#[]⟩)).setCell (p := ⟨w.heap.size, 2, none⟩) (Nat.le_refl _) (Value.int .i64 N)).setCell (p := ⟨w.heap.size, 3, none⟩) (Nat.le_refl _) (Value.string ⟨#[]⟩)
        exact bodyPost_ret (v := .tuple #[.agg #[Value.string m, Value.string ⟨#[]⟩, Value.int .i64 N, Value.string ⟨#[]⟩], .bool true]) (by simp [results, Tryz.results37, go_sem, y0, y1, y2, y3]) rfl ⟨by rw [HPC.out.1, HPC.out.2, HG]; rfl, HB9⟩
  · go_enter Tryz.func37, Tryz.ntmps37
    go_wp2_with fail
    rw [hw0.out]
    refine (cutSp_c s _ (HM.out.below b0 hlM) (by omega)).mono ?_; rintro e w1 ⟨q, rfl, b1⟩
    rw [HMM.out, HR.out]
    have B1 := below_then b0 b1
    have Y1 := hide (row_b b1 Y0.out)
    have hL1 : w.heap.size < w1.heap.size := Nat.lt_of_lt_of_le hL0 b1.size
    obtain ⟨w2, hw2⟩ : ∃ w2, Hid (w1.alloc (.cells #[.string m, .string ⟨#[]⟩, .int .i64 0, .string r] 37 : Obj) = w2) := ⟨_, rfl⟩
    have b2 : Below w1.heap.size w1 w2 := by rw [← hw2.out]; exact below_alloc (Below.refl _ _) _
    have B2 : Below w.heap.size w w2 := below_then B1 b2
    have X2 := hide (show w2.heap[w1.heap.size]? = some (.cells #[.string m, .string ⟨#[]⟩, .int .i64 0, .string r] 37 : Obj) by rw [← hw2.out]; exact heap_new rfl)
    have Y2 := hide (row_b b2 Y1.out)
    have hL2 : w1.heap.size < w2.heap.size := by rw [← hw2.out]; simp
    clear b1 b2
    go_wp2_with fail
    rw [hw2.out]
    have HC : Hid (Pu.candI s = (⟨m, ⟨#[]⟩, 0, r⟩ : Pu.CallD)) := HI.out
    have HPC := hide (Pu.pcall_of HC.out)
    have hwf : CallD.wf (⟨m, ⟨#[]⟩, 0, r⟩ : Pu.CallD) := ⟨by show m.size ≤ maxLen; unfold maxLen; omega, by show (⟨#[]⟩ : ByteArray).size ≤ maxLen; unfold maxLen; first | omega | decide, WalkArith.wf_i64 (by show -9223372036854775808 ≤ (0 : Int) ∧ (0 : Int) ≤ 9223372036854775807; first | omega | decide), by show (r : ByteArray).size ≤ maxLen; unfold maxLen; first | omega | decide⟩
    have HWF := hide hwf
    have htx : ((⟨m, ⟨#[]⟩, 0, r⟩ : Pu.CallD)).text.size ≤ 1048576 := by show (r : ByteArray).size ≤ 1048576; first | omega | decide
    have HTX := hide htx
    clear hwf htx HI HC
    refine (iIsCall_c (⟨m, ⟨#[]⟩, 0, r⟩ : Pu.CallD) _ HWF.out).mono ?_; rintro e w5 ⟨rfl, b5⟩
    have B5 := below_then B2 b5
    have X5 := hide (row_b b5 X2.out)
    have Y5 := hide (row_b b5 Y2.out)
    have hne5 : ¬ w1.heap.size = w.heap.size := by omega
    clear b5
    rcases hb : Pu.callB (⟨m, ⟨#[]⟩, 0, r⟩ : Pu.CallD) with _ | _
    · have HG : Pu.goodC (⟨m, ⟨#[]⟩, 0, r⟩ : Pu.CallD) s = false := by rw [Pu.goodC, hb]; rfl
      obtain ⟨x0, x1, x2, x3, xf⟩ := four_cells X5.out
      obtain ⟨y0, y1, y2, y3, yf⟩ := four_cells Y5.out
      go_wp2_with fail
      have HB9 := (((B5.setCell (p := ⟨w.heap.size, 0, none⟩) (Nat.le_refl _) (Value.string ⟨#[]⟩)).setCell (p := ⟨w.heap.size, 1, none⟩) (Nat.le_refl _) (Value.string ⟨#[]⟩)).setCell (p := ⟨w.heap.size, 2, none⟩) (Nat.le_refl _) (Value.int .i64 0)).setCell (p := ⟨w.heap.size, 3, none⟩) (Nat.le_refl _) (Value.string ⟨#[]⟩)
      exact bodyPost_ret (v := .tuple #[.agg #[Value.string ⟨#[]⟩, Value.string ⟨#[]⟩, Value.int .i64 0, Value.string ⟨#[]⟩], .bool false]) (by simp [results, Tryz.results37, go_sem, y0, y1, y2, y3]) rfl ⟨by rw [HPC.out.1, HPC.out.2, HG]; rfl, HB9⟩
    · obtain ⟨_, _, _, _, _⟩ := four_cells X5.out
      go_wp2_with fail
      refine (iFormatCall_c (⟨m, ⟨#[]⟩, 0, r⟩ : Pu.CallD) _ (HT.out.below B5 hlT) HWF.out HTX.out).mono ?_; rintro e w6 ⟨rfl, b6⟩
      have B6 := below_then B5 b6
      have X6 := hide (row_b b6 X5.out)
      have Y6 := hide (row_b b6 Y5.out)
      clear b6
      rcases he : ((Pu.callT (⟨m, ⟨#[]⟩, 0, r⟩ : Pu.CallD)).toList == s.toList) with _ | _
      · have HG : Pu.goodC (⟨m, ⟨#[]⟩, 0, r⟩ : Pu.CallD) s = false := by rw [Pu.goodC, hb, he]; rfl
        obtain ⟨x0, x1, x2, x3, xf⟩ := four_cells X6.out
        obtain ⟨y0, y1, y2, y3, yf⟩ := four_cells Y6.out
        go_wp2_with fail
        have HB9 := (((B6.setCell (p := ⟨w.heap.size, 0, none⟩) (Nat.le_refl _) (Value.string ⟨#[]⟩)).setCell (p := ⟨w.heap.size, 1, none⟩) (Nat.le_refl _) (Value.string ⟨#[]⟩)).setCell (p := ⟨w.heap.size, 2, none⟩) (Nat.le_refl _) (Value.int .i64 0)).setCell (p := ⟨w.heap.size, 3, none⟩) (Nat.le_refl _) (Value.string ⟨#[]⟩)
        exact bodyPost_ret (v := .tuple #[.agg #[Value.string ⟨#[]⟩, Value.string ⟨#[]⟩, Value.int .i64 0, Value.string ⟨#[]⟩], .bool false]) (by simp [results, Tryz.results37, go_sem, y0, y1, y2, y3]) rfl ⟨by rw [HPC.out.1, HPC.out.2, HG]; rfl, HB9⟩
      · have HG : Pu.goodC (⟨m, ⟨#[]⟩, 0, r⟩ : Pu.CallD) s = true := by rw [Pu.goodC, hb, he]; rfl
        obtain ⟨x0, x1, x2, x3, xf⟩ := four_cells X6.out
        obtain ⟨y0, y1, y2, y3, yf⟩ := four_cells Y6.out
        go_wp2_with fail
        have HB9 := (((B6.setCell (p := ⟨w.heap.size, 0, none⟩) (Nat.le_refl _) (Value.string m)).setCell (p := ⟨w.heap.size, 1, none⟩) (Nat.le_refl _) (Value.string ⟨#[]⟩)).setCell (p := ⟨w.heap.size, 2, none⟩) (Nat.le_refl _) (Value.int .i64 0)).setCell (p := ⟨w.heap.size, 3, none⟩) (Nat.le_refl _) (Value.string r)
        exact bodyPost_ret (v := .tuple #[.agg #[Value.string m, Value.string ⟨#[]⟩, Value.int .i64 0, Value.string r], .bool true]) (by simp [results, Tryz.results37, go_sem, y0, y1, y2, y3]) rfl ⟨by rw [HPC.out.1, HPC.out.2, HG]; rfl, HB9⟩
  · go_enter Tryz.func37, Tryz.ntmps37
    go_wp2_with fail
    rw [hw0.out]
    refine (cutSp_c s _ (HM.out.below b0 hlM) (by omega)).mono ?_; rintro e w1 ⟨q, rfl, b1⟩
    rw [HMM.out, HR.out]
    have B1 := below_then b0 b1
    have Y1 := hide (row_b b1 Y0.out)
    have hL1 : w.heap.size < w1.heap.size := Nat.lt_of_lt_of_le hL0 b1.size
    obtain ⟨w2, hw2⟩ : ∃ w2, Hid (w1.alloc (.cells #[.string m, .string ⟨#[]⟩, .int .i64 0, .string ⟨#[]⟩] 37 : Obj) = w2) := ⟨_, rfl⟩
    have b2 : Below w1.heap.size w1 w2 := by rw [← hw2.out]; exact below_alloc (Below.refl _ _) _
    have B2 : Below w.heap.size w w2 := below_then B1 b2
    have X2 := hide (show w2.heap[w1.heap.size]? = some (.cells #[.string m, .string ⟨#[]⟩, .int .i64 0, .string ⟨#[]⟩] 37 : Obj) by rw [← hw2.out]; exact heap_new rfl)
    have Y2 := hide (row_b b2 Y1.out)
    have hL2 : w1.heap.size < w2.heap.size := by rw [← hw2.out]; simp
    clear b1 b2
    go_wp2_with fail
    rw [hw2.out]
    have HC : Hid (Pu.candI s = (⟨m, ⟨#[]⟩, 0, ⟨#[]⟩⟩ : Pu.CallD)) := HI.out
    have HPC := hide (Pu.pcall_of HC.out)
    have hwf : CallD.wf (⟨m, ⟨#[]⟩, 0, ⟨#[]⟩⟩ : Pu.CallD) := ⟨by show m.size ≤ maxLen; unfold maxLen; omega, by show (⟨#[]⟩ : ByteArray).size ≤ maxLen; unfold maxLen; first | omega | decide, WalkArith.wf_i64 (by show -9223372036854775808 ≤ (0 : Int) ∧ (0 : Int) ≤ 9223372036854775807; first | omega | decide), by show (⟨#[]⟩ : ByteArray).size ≤ maxLen; unfold maxLen; first | omega | decide⟩
    have HWF := hide hwf
    have htx : ((⟨m, ⟨#[]⟩, 0, ⟨#[]⟩⟩ : Pu.CallD)).text.size ≤ 1048576 := by show (⟨#[]⟩ : ByteArray).size ≤ 1048576; first | omega | decide
    have HTX := hide htx
    clear hwf htx HI HC
    refine (iIsCall_c (⟨m, ⟨#[]⟩, 0, ⟨#[]⟩⟩ : Pu.CallD) _ HWF.out).mono ?_; rintro e w5 ⟨rfl, b5⟩
    have B5 := below_then B2 b5
    have X5 := hide (row_b b5 X2.out)
    have Y5 := hide (row_b b5 Y2.out)
    have hne5 : ¬ w1.heap.size = w.heap.size := by omega
    clear b5
    rcases hb : Pu.callB (⟨m, ⟨#[]⟩, 0, ⟨#[]⟩⟩ : Pu.CallD) with _ | _
    · have HG : Pu.goodC (⟨m, ⟨#[]⟩, 0, ⟨#[]⟩⟩ : Pu.CallD) s = false := by rw [Pu.goodC, hb]; rfl
      obtain ⟨x0, x1, x2, x3, xf⟩ := four_cells X5.out
      obtain ⟨y0, y1, y2, y3, yf⟩ := four_cells Y5.out
      go_wp2_with fail
      have HB9 := (((B5.setCell (p := ⟨w.heap.size, 0, none⟩) (Nat.le_refl _) (Value.string ⟨#[]⟩)).setCell (p := ⟨w.heap.size, 1, none⟩) (Nat.le_refl _) (Value.string ⟨#[]⟩)).setCell (p := ⟨w.heap.size, 2, none⟩) (Nat.le_refl _) (Value.int .i64 0)).setCell (p := ⟨w.heap.size, 3, none⟩) (Nat.le_refl _) (Value.string ⟨#[]⟩)
      exact bodyPost_ret (v := .tuple #[.agg #[Value.string ⟨#[]⟩, Value.string ⟨#[]⟩, Value.int .i64 0, Value.string ⟨#[]⟩], .bool false]) (by simp [results, Tryz.results37, go_sem, y0, y1, y2, y3]) rfl ⟨by rw [HPC.out.1, HPC.out.2, HG]; rfl, HB9⟩
    · obtain ⟨_, _, _, _, _⟩ := four_cells X5.out
      go_wp2_with fail
      refine (iFormatCall_c (⟨m, ⟨#[]⟩, 0, ⟨#[]⟩⟩ : Pu.CallD) _ (HT.out.below B5 hlT) HWF.out HTX.out).mono ?_; rintro e w6 ⟨rfl, b6⟩
      have B6 := below_then B5 b6
      have X6 := hide (row_b b6 X5.out)
      have Y6 := hide (row_b b6 Y5.out)
      clear b6
      rcases he : ((Pu.callT (⟨m, ⟨#[]⟩, 0, ⟨#[]⟩⟩ : Pu.CallD)).toList == s.toList) with _ | _
      · have HG : Pu.goodC (⟨m, ⟨#[]⟩, 0, ⟨#[]⟩⟩ : Pu.CallD) s = false := by rw [Pu.goodC, hb, he]; rfl
        obtain ⟨x0, x1, x2, x3, xf⟩ := four_cells X6.out
        obtain ⟨y0, y1, y2, y3, yf⟩ := four_cells Y6.out
        go_wp2_with fail
        have HB9 := (((B6.setCell (p := ⟨w.heap.size, 0, none⟩) (Nat.le_refl _) (Value.string ⟨#[]⟩)).setCell (p := ⟨w.heap.size, 1, none⟩) (Nat.le_refl _) (Value.string ⟨#[]⟩)).setCell (p := ⟨w.heap.size, 2, none⟩) (Nat.le_refl _) (Value.int .i64 0)).setCell (p := ⟨w.heap.size, 3, none⟩) (Nat.le_refl _) (Value.string ⟨#[]⟩)
        exact bodyPost_ret (v := .tuple #[.agg #[Value.string ⟨#[]⟩, Value.string ⟨#[]⟩, Value.int .i64 0, Value.string ⟨#[]⟩], .bool false]) (by simp [results, Tryz.results37, go_sem, y0, y1, y2, y3]) rfl ⟨by rw [HPC.out.1, HPC.out.2, HG]; rfl, HB9⟩
      · have HG : Pu.goodC (⟨m, ⟨#[]⟩, 0, ⟨#[]⟩⟩ : Pu.CallD) s = true := by rw [Pu.goodC, hb, he]; rfl
        obtain ⟨x0, x1, x2, x3, xf⟩ := four_cells X6.out
        obtain ⟨y0, y1, y2, y3, yf⟩ := four_cells Y6.out
        go_wp2_with fail
        have HB9 := (((B6.setCell (p := ⟨w.heap.size, 0, none⟩) (Nat.le_refl _) (Value.string m)).setCell (p := ⟨w.heap.size, 1, none⟩) (Nat.le_refl _) (Value.string ⟨#[]⟩)).setCell (p := ⟨w.heap.size, 2, none⟩) (Nat.le_refl _) (Value.int .i64 0)).setCell (p := ⟨w.heap.size, 3, none⟩) (Nat.le_refl _) (Value.string ⟨#[]⟩)
        exact bodyPost_ret (v := .tuple #[.agg #[Value.string m, Value.string ⟨#[]⟩, Value.int .i64 0, Value.string ⟨#[]⟩], .bool true]) (by simp [results, Tryz.results37, go_sem, y0, y1, y2, y3]) rfl ⟨by rw [HPC.out.1, HPC.out.2, HG]; rfl, HB9⟩
theorem rd_sub {w : World} {g o c a b n : Nat} {l : List ByteArray} (h : RdStr w (.slice (some ⟨g, o, none⟩) n c) l) (hn : n = l.length) (hab : a ≤ b) (hb : b ≤ n) : RdStr w (.slice (some ⟨g, o + a, none⟩) (b - a) (c - a)) ((l.take b).drop a) := by
  subst hn
  obtain ⟨A, c', e, h1, h2, h3⟩ := h
  cases e
  have hl : ((l.take b).drop a).length = b - a := by rw [List.length_drop, List.length_take]; omega
  refine ⟨some ⟨g, o + a, none⟩, c - a, by rw [hl], by omega, by omega, fun hp => ?_⟩
  obtain ⟨g', o', e', hgs, hc⟩ := h3 (by omega)
  cases e'
  refine ⟨g, o + a, rfl, hgs, fun i x hx j u hu => ?_⟩
  rw [List.getElem?_drop, List.getElem?_take] at hx
  split at hx
  · have := hc (a + i) x hx j u hu
    rwa [show o + (a + i) * 1 + j = o + a + i * 1 + j by omega] at this
  · cases hx
theorem rd_nil {w : World} {A : Option Addr} {c : Nat} (h : c ≤ maxLen) : RdStr w (.slice A 0 c) [] := ⟨A, c, rfl, Nat.zero_le _, h, fun h => absurd h (by simp)⟩
theorem rd_last {w : World} {g o : Nat} {m : ByteArray} {rest : List ByteArray} (h : Hid (RdFrom w 1 strEn g o (m :: rest))) : w.cell? ⟨g, o, none⟩ = some (.string m) ∧ ∃ z : ByteArray, (m :: rest).getLastD Pu.nulB = z ∧ z ∈ m :: rest ∧ w.cell? ⟨g, o + rest.length, none⟩ = some (.string z) := by
  have h0 := h.out.2 0 m rfl 0 _ rfl
  refine ⟨by simpa using h0, (m :: rest).getLast (by simp), rfl, List.getLast_mem _, ?_⟩
  have h1 := h.out.2 rest.length ((m :: rest).getLast (by simp)) (by rw [List.getLast_eq_getElem]; simp) 0 _ rfl
  simpa using h1
end Go.Proofs.YtllmcnmongaahaaGreatDoor
