/- Contracts: calls read from a text. -/
import Derived.Test.YtabbgabdbkbjcaaDoorPCallPure
import Derived.Test.YtabbgabdbkbjcaaDoorPCells
namespace Go.Proofs.YtabbgabdbkbjcaaDoor
open Go.ChangeShapes Go.WideShapes Go.ChangeAt Go.RowKit
set_option maxRecDepth 100000
theorem Pu.cutA_size (p : ByteArray) : (Pu.cutA p).size ≤ p.size := by
  have e : (Pu.cutA p).size = (Lib.cut p.data.toList [32]).1.length := rfl
  rw [e, Lib.cut]
  split
  · simp only [List.length_take]
    have : p.data.toList.length = p.size := rfl
    omega
  · exact Nat.le_refl _
theorem Pu.cutR_size (p : ByteArray) : (Pu.cutR p).size ≤ p.size := by
  have e : (Pu.cutR p).size = (Lib.cut p.data.toList [32]).2.1.length := rfl
  rw [e, Lib.cut]
  split
  · simp only [List.length_drop]
    have : p.data.toList.length = p.size := rfl
    omega
  · simp
/-- the test of a candidate, of known parts -/
theorem Pu.pcall_of {s : ByteArray} {c : Pu.CallD} (hc : Pu.candI s = c) : Pu.pcallB s = Pu.goodC c s ∧ Pu.pcallC s = if Pu.goodC c s then c else Pu.nulC := by
  rw [Pu.pcallC, Pu.pcallB, hc]
  exact ⟨rfl, rfl⟩
theorem row4_set {w : World} {g : Nat} {t : TypeId} {a b c d u : Value} (h : w.heap[g]? = some (.cells #[a, b, c, d] t (0, 0))) :
    (w.setCell ⟨g, 1, none⟩ u).heap[g]? = some (.cells #[a, u, c, d] t (0, 0)) ∧ (w.setCell ⟨g, 2, none⟩ u).heap[g]? = some (.cells #[a, b, u, d] t (0, 0)) ∧ (w.setCell ⟨g, 3, none⟩ u).heap[g]? = some (.cells #[a, b, c, u] t (0, 0)) :=
  ⟨heap_setCell_same w g 1 _ _ _ h, heap_setCell_same w g 2 _ _ _ h, heap_setCell_same w g 3 _ _ _ h⟩
theorem row_far {w : World} {g g' j : Nat} {o : Obj} {u : Value} (h : w.heap[g]? = some o) (hne : g' ≠ g) : (w.setCell ⟨g', j, none⟩ u).heap[g]? = some o :=
  (Below.heap_setCell w ⟨g', j, none⟩ u g (fun e => hne e.symm)).trans h
theorem row_b {w w' : World} {g : Nat} {o : Obj} (hb : Below w.heap.size w w') (h : w.heap[g]? = some o) : w'.heap[g]? = some o :=
  (hb.block g (Array.getElem?_eq_some_iff.1 h).1).trans h
theorem cutSp_c (p : ByteArray) (w : World) (hM : MaxC w) (hp : p.size ≤ 16777216) :
    Calls Tryd.prog 40 #[.string p, .string ⟨#[32]⟩] w fun e w' => ∃ q : Bool, e = .returned (.tuple #[.string (Pu.cutA p), .string (Pu.cutR p), .bool q]) ∧ Below w.heap.size w w' := by
  obtain ⟨m, hm⟩ := hM
  refine (Tryd.strings_Cut p ⟨#[32]⟩ m w (by omega) hm).mono ?_
  rintro e w' ⟨rfl, n, rfl⟩
  exact ⟨_, rfl, below_drewN (Below.refl _ _) n⟩
set_option maxHeartbeats 4000000 in
theorem iParseCall_c (s : ByteArray) (w : World) (hM : MaxC w) (hT : Pow10 w) (hE : ErrSyn w) (hs : s.size ≤ 1048576) :
    Calls Tryd.prog 20 #[.string s] w fun e w' => e = .returned (.tuple #[callV (Pu.pcallC s), .bool (Pu.pcallB s)]) ∧ Below w.heap.size w w' := by
  have hlM := hM.lt
  have hlT := hT.lt
  have hlE := hE.lt
  have HM := hide hM
  have HT := hide hT
  have HE := hide hE
  clear hM hT hE
  have hmz := Pu.cutA_size s
  have hrz := Pu.cutR_size s
  obtain ⟨m, HMM⟩ : ∃ m, Hid (Pu.cutA s = m) := ⟨_, rfl⟩
  obtain ⟨r, HR⟩ : ∃ r, Hid (Pu.cutR s = r) := ⟨_, rfl⟩
  rw [HMM.out] at hmz
  rw [HR.out] at hrz
  obtain ⟨G, hG⟩ : ∃ b, (m.toList == [71, 101, 116]) = b := ⟨_, rfl⟩
  obtain ⟨P, hP⟩ : ∃ b, (m.toList == [80, 117, 116]) = b := ⟨_, rfl⟩
  obtain ⟨H, hH⟩ : ∃ b, (m.toList == [72, 101, 97, 114]) = b := ⟨_, rfl⟩
  obtain ⟨L, hL⟩ : ∃ b, (m.toList == [76, 111, 97, 100]) = b := ⟨_, rfl⟩
  have hm := Pu.method_cases m.toList
  simp only [Pu.mGet, Pu.mPut, Pu.mHear, Pu.mLoad, hG, hP, hH, hL] at hm
  have HI : Hid (Pu.candI s = Pu.candF G P H L m r) := by rw [Hid, Pu.candI, HMM.out, HR.out, Pu.mGet, Pu.mPut, Pu.mHear, Pu.mLoad, hG, hP, hH, hL]
  obtain ⟨w0, hw0⟩ : ∃ w0, Hid (w.alloc (.cells #[.string ⟨#[]⟩, .string ⟨#[]⟩, .int .i64 0, .string ⟨#[]⟩] 36 : Obj) = w0) := ⟨_, rfl⟩
  have b0 : Below w.heap.size w w0 := by rw [← hw0.out]; exact below_alloc (Below.refl _ _) _
  have Y0 := hide (show w0.heap[w.heap.size]? = some (.cells #[.string ⟨#[]⟩, .string ⟨#[]⟩, .int .i64 0, .string ⟨#[]⟩] 36 : Obj) by rw [← hw0.out]; exact heap_new rfl)
  have hL0 : w.heap.size < w0.heap.size := by rw [← hw0.out]; simp
  rcases hm with ⟨rfl, rfl, rfl, rfl⟩ | ⟨rfl, rfl, rfl, rfl⟩ | ⟨rfl, rfl, rfl, rfl⟩ | ⟨rfl, rfl, rfl, rfl⟩ | ⟨rfl, rfl, rfl, rfl⟩
  · go_enter Tryd.func20, Tryd.ntmps20
    go_wp2_with fail
    rw [hw0.out]
    refine (cutSp_c s _ (HM.out.below b0 hlM) (by omega)).mono ?_; rintro e w1 ⟨q, rfl, b1⟩
    rw [HMM.out, HR.out]
    have B1 := below_then b0 b1
    have Y1 := hide (row_b b1 Y0.out)
    have hL1 : w.heap.size < w1.heap.size := Nat.lt_of_lt_of_le hL0 b1.size
    obtain ⟨w2, hw2⟩ : ∃ w2, Hid (w1.alloc (.cells #[.string m, .string r, .int .i64 0, .string ⟨#[]⟩] 36 : Obj) = w2) := ⟨_, rfl⟩
    have b2 : Below w1.heap.size w1 w2 := by rw [← hw2.out]; exact below_alloc (Below.refl _ _) _
    have B2 : Below w.heap.size w w2 := below_then B1 b2
    have X2 := hide (show w2.heap[w1.heap.size]? = some (.cells #[.string m, .string r, .int .i64 0, .string ⟨#[]⟩] 36 : Obj) by rw [← hw2.out]; exact heap_new rfl)
    have Y2 := hide (row_b b2 Y1.out)
    have hL2 : w1.heap.size < w2.heap.size := by rw [← hw2.out]; simp
    clear b1 b2
    go_wp2_with fail
    rw [hw2.out]
    have HC : Hid (Pu.candI s = (⟨m, r, 0, ⟨#[]⟩⟩ : Pu.CallD)) := HI.out
    have HPC := hide (Pu.pcall_of HC.out)
    have hwf : CallD.wf (⟨m, r, 0, ⟨#[]⟩⟩ : Pu.CallD) := ⟨by show m.size ≤ maxLen; unfold maxLen; omega, by show (r : ByteArray).size ≤ maxLen; unfold maxLen; first | omega | decide, WalkArith.wf_i64 (by show -9223372036854775808 ≤ (0 : Int) ∧ (0 : Int) ≤ 9223372036854775807; first | omega | decide), by show (⟨#[]⟩ : ByteArray).size ≤ maxLen; unfold maxLen; first | omega | decide⟩
    have HWF := hide hwf
    have htx : ((⟨m, r, 0, ⟨#[]⟩⟩ : Pu.CallD)).text.size ≤ 1048576 := by show (⟨#[]⟩ : ByteArray).size ≤ 1048576; first | omega | decide
    have HTX := hide htx
    clear hwf htx HI HC
    refine (iIsCall_c (⟨m, r, 0, ⟨#[]⟩⟩ : Pu.CallD) _ HWF.out).mono ?_; rintro e w5 ⟨rfl, b5⟩
    have B5 := below_then B2 b5
    have X5 := hide (row_b b5 X2.out)
    have Y5 := hide (row_b b5 Y2.out)
    have hne5 : ¬ w1.heap.size = w.heap.size := by omega
    clear b5
    rcases hb : Pu.callB (⟨m, r, 0, ⟨#[]⟩⟩ : Pu.CallD) with _ | _
    · have HG : Pu.goodC (⟨m, r, 0, ⟨#[]⟩⟩ : Pu.CallD) s = false := by rw [Pu.goodC, hb]; rfl
      obtain ⟨x0, x1, x2, x3, xf⟩ := four_cells X5.out
      obtain ⟨y0, y1, y2, y3, yf⟩ := four_cells Y5.out
      go_wp2_with fail
      have HB9 := (((B5.setCell (p := ⟨w.heap.size, 0, none⟩) (Nat.le_refl _) (Value.string ⟨#[]⟩)).setCell (p := ⟨w.heap.size, 1, none⟩) (Nat.le_refl _) (Value.string ⟨#[]⟩)).setCell (p := ⟨w.heap.size, 2, none⟩) (Nat.le_refl _) (Value.int .i64 0)).setCell (p := ⟨w.heap.size, 3, none⟩) (Nat.le_refl _) (Value.string ⟨#[]⟩)
      exact bodyPost_ret (v := .tuple #[.agg #[Value.string ⟨#[]⟩, Value.string ⟨#[]⟩, Value.int .i64 0, Value.string ⟨#[]⟩], .bool false]) (by simp [results, Tryd.results20, go_sem, y0, y1, y2, y3]) rfl ⟨by rw [HPC.out.1, HPC.out.2, HG]; rfl, HB9⟩
    · obtain ⟨_, _, _, _, _⟩ := four_cells X5.out
      go_wp2_with fail
      refine (iFormatCall_c (⟨m, r, 0, ⟨#[]⟩⟩ : Pu.CallD) _ (HT.out.below B5 hlT) HWF.out HTX.out).mono ?_; rintro e w6 ⟨rfl, b6⟩
      have B6 := below_then B5 b6
      have X6 := hide (row_b b6 X5.out)
      have Y6 := hide (row_b b6 Y5.out)
      clear b6
      rcases he : ((Pu.callT (⟨m, r, 0, ⟨#[]⟩⟩ : Pu.CallD)).toList == s.toList) with _ | _
      · have HG : Pu.goodC (⟨m, r, 0, ⟨#[]⟩⟩ : Pu.CallD) s = false := by rw [Pu.goodC, hb, he]; rfl
        obtain ⟨x0, x1, x2, x3, xf⟩ := four_cells X6.out
        obtain ⟨y0, y1, y2, y3, yf⟩ := four_cells Y6.out
        go_wp2_with fail
        have HB9 := (((B6.setCell (p := ⟨w.heap.size, 0, none⟩) (Nat.le_refl _) (Value.string ⟨#[]⟩)).setCell (p := ⟨w.heap.size, 1, none⟩) (Nat.le_refl _) (Value.string ⟨#[]⟩)).setCell (p := ⟨w.heap.size, 2, none⟩) (Nat.le_refl _) (Value.int .i64 0)).setCell (p := ⟨w.heap.size, 3, none⟩) (Nat.le_refl _) (Value.string ⟨#[]⟩)
        exact bodyPost_ret (v := .tuple #[.agg #[Value.string ⟨#[]⟩, Value.string ⟨#[]⟩, Value.int .i64 0, Value.string ⟨#[]⟩], .bool false]) (by simp [results, Tryd.results20, go_sem, y0, y1, y2, y3]) rfl ⟨by rw [HPC.out.1, HPC.out.2, HG]; rfl, HB9⟩
      · have HG : Pu.goodC (⟨m, r, 0, ⟨#[]⟩⟩ : Pu.CallD) s = true := by rw [Pu.goodC, hb, he]; rfl
        obtain ⟨x0, x1, x2, x3, xf⟩ := four_cells X6.out
        obtain ⟨y0, y1, y2, y3, yf⟩ := four_cells Y6.out
        go_wp2_with fail
        have HB9 := (((B6.setCell (p := ⟨w.heap.size, 0, none⟩) (Nat.le_refl _) (Value.string m)).setCell (p := ⟨w.heap.size, 1, none⟩) (Nat.le_refl _) (Value.string r)).setCell (p := ⟨w.heap.size, 2, none⟩) (Nat.le_refl _) (Value.int .i64 0)).setCell (p := ⟨w.heap.size, 3, none⟩) (Nat.le_refl _) (Value.string ⟨#[]⟩)
        exact bodyPost_ret (v := .tuple #[.agg #[Value.string m, Value.string r, Value.int .i64 0, Value.string ⟨#[]⟩], .bool true]) (by simp [results, Tryd.results20, go_sem, y0, y1, y2, y3]) rfl ⟨by rw [HPC.out.1, HPC.out.2, HG]; rfl, HB9⟩
  · go_enter Tryd.func20, Tryd.ntmps20
    go_wp2_with fail
    rw [hw0.out]
    refine (cutSp_c s _ (HM.out.below b0 hlM) (by omega)).mono ?_; rintro e w1 ⟨q, rfl, b1⟩
    rw [HMM.out, HR.out]
    have B1 := below_then b0 b1
    have Y1 := hide (row_b b1 Y0.out)
    have hL1 : w.heap.size < w1.heap.size := Nat.lt_of_lt_of_le hL0 b1.size
    obtain ⟨w2, hw2⟩ : ∃ w2, Hid (w1.alloc (.cells #[.string m, .string ⟨#[]⟩, .int .i64 0, .string ⟨#[]⟩] 36 : Obj) = w2) := ⟨_, rfl⟩
    have b2 : Below w1.heap.size w1 w2 := by rw [← hw2.out]; exact below_alloc (Below.refl _ _) _
    have B2 : Below w.heap.size w w2 := below_then B1 b2
    have X2 := hide (show w2.heap[w1.heap.size]? = some (.cells #[.string m, .string ⟨#[]⟩, .int .i64 0, .string ⟨#[]⟩] 36 : Obj) by rw [← hw2.out]; exact heap_new rfl)
    have Y2 := hide (row_b b2 Y1.out)
    have hL2 : w1.heap.size < w2.heap.size := by rw [← hw2.out]; simp
    clear b1 b2
    go_wp2_with fail
    rw [hw2.out]
    refine (cutSp_c r _ (HM.out.below B2 hlM) (by omega)).mono ?_; rintro e w3 ⟨q2, rfl, b3⟩
    have hkz := Pu.cutA_size r
    obtain ⟨K, HK⟩ : ∃ K, Hid (Pu.cutA r = K) := ⟨_, rfl⟩
    rw [HK.out] at hkz ⊢
    have B3 := (below_then B2 b3).setCell (p := ⟨w1.heap.size, 1, none⟩) (by show w.heap.size ≤ w1.heap.size; omega) (Value.string K)
    have X3 := hide (row_b b3 X2.out)
    have Y3 := hide (row_far (g' := w1.heap.size) (j := 1) (u := Value.string K) (row_b b3 Y2.out) (by omega))
    have X4 := hide (row4_set (u := Value.string K) X3.out).1
    obtain ⟨_, _, _, _, _⟩ := four_cells X3.out
    clear b3
    go_wp2_with fail
    refine (iParseNumber_c _ _ (HT.out.below B3 hlT) (HE.out.below B3 hlE)).mono ?_; rintro e w4 ⟨rfl, b4⟩
    have hnb := Pu.pn_bd (Pu.cutR r).toList
    obtain ⟨N, HN⟩ : ∃ N, Hid (Pu.pnV (Pu.cutR r).toList = N) := ⟨_, rfl⟩
    rw [HN.out] at hnb ⊢
    have hI2 : Pu.candI s = ⟨m, K, N, ⟨#[]⟩⟩ := by rw [← HN.out, ← HK.out]; exact HI.out
    replace HI := hide hI2
    have B4 := (below_then B3 b4).setCell (p := ⟨w1.heap.size, 2, none⟩) (by show w.heap.size ≤ w1.heap.size; omega) (Value.int .i64 N)
    have X5' := hide (row_b b4 X4.out)
    have Y4 := hide (row_far (g' := w1.heap.size) (j := 2) (u := Value.int .i64 N) (row_b b4 Y3.out) (by omega))
    have X6' := hide (row4_set (u := Value.int .i64 N) X5'.out).2.1
    obtain ⟨_, _, _, _, _⟩ := four_cells X5'.out
    clear b4
    go_wp2_with fail
    have HC : Hid (Pu.candI s = (⟨m, K, N, ⟨#[]⟩⟩ : Pu.CallD)) := HI.out
    have HPC := hide (Pu.pcall_of HC.out)
    have hwf : CallD.wf (⟨m, K, N, ⟨#[]⟩⟩ : Pu.CallD) := ⟨by show m.size ≤ maxLen; unfold maxLen; omega, by show (K : ByteArray).size ≤ maxLen; unfold maxLen; first | omega | decide, WalkArith.wf_i64 (by show -9223372036854775808 ≤ (N : Int) ∧ (N : Int) ≤ 9223372036854775807; first | omega | decide), by show (⟨#[]⟩ : ByteArray).size ≤ maxLen; unfold maxLen; first | omega | decide⟩
    have HWF := hide hwf
    have htx : ((⟨m, K, N, ⟨#[]⟩⟩ : Pu.CallD)).text.size ≤ 1048576 := by show (⟨#[]⟩ : ByteArray).size ≤ 1048576; first | omega | decide
    have HTX := hide htx
    clear hwf htx HI HC
    refine (iIsCall_c (⟨m, K, N, ⟨#[]⟩⟩ : Pu.CallD) _ HWF.out).mono ?_; rintro e w5 ⟨rfl, b5⟩
    have B5 := below_then B4 b5
    have X5 := hide (row_b b5 X6'.out)
    have Y5 := hide (row_b b5 Y4.out)
    have hne5 : ¬ w1.heap.size = w.heap.size := by omega
    clear b5
    rcases hb : Pu.callB (⟨m, K, N, ⟨#[]⟩⟩ : Pu.CallD) with _ | _
    · have HG : Pu.goodC (⟨m, K, N, ⟨#[]⟩⟩ : Pu.CallD) s = false := by rw [Pu.goodC, hb]; rfl
      obtain ⟨x0, x1, x2, x3, xf⟩ := four_cells X5.out
      obtain ⟨y0, y1, y2, y3, yf⟩ := four_cells Y5.out
      go_wp2_with fail
      have HB9 := (((B5.setCell (p := ⟨w.heap.size, 0, none⟩) (Nat.le_refl _) (Value.string ⟨#[]⟩)).setCell (p := ⟨w.heap.size, 1, none⟩) (Nat.le_refl _) (Value.string ⟨#[]⟩)).setCell (p := ⟨w.heap.size, 2, none⟩) (Nat.le_refl _) (Value.int .i64 0)).setCell (p := ⟨w.heap.size, 3, none⟩) (Nat.le_refl _) (Value.string ⟨#[]⟩)
      exact bodyPost_ret (v := .tuple #[.agg #[Value.string ⟨#[]⟩, Value.string ⟨#[]⟩, Value.int .i64 0, Value.string ⟨#[]⟩], .bool false]) (by simp [results, Tryd.results20, go_sem, y0, y1, y2, y3]) rfl ⟨by rw [HPC.out.1, HPC.out.2, HG]; rfl, HB9⟩
    · obtain ⟨_, _, _, _, _⟩ := four_cells X5.out
      go_wp2_with fail
      refine (iFormatCall_c (⟨m, K, N, ⟨#[]⟩⟩ : Pu.CallD) _ (HT.out.below B5 hlT) HWF.out HTX.out).mono ?_; rintro e w6 ⟨rfl, b6⟩
      have B6 := below_then B5 b6
      have X6 := hide (row_b b6 X5.out)
      have Y6 := hide (row_b b6 Y5.out)
      clear b6
      rcases he : ((Pu.callT (⟨m, K, N, ⟨#[]⟩⟩ : Pu.CallD)).toList == s.toList) with _ | _
      · have HG : Pu.goodC (⟨m, K, N, ⟨#[]⟩⟩ : Pu.CallD) s = false := by rw [Pu.goodC, hb, he]; rfl
        obtain ⟨x0, x1, x2, x3, xf⟩ := four_cells X6.out
        obtain ⟨y0, y1, y2, y3, yf⟩ := four_cells Y6.out
        go_wp2_with fail
        have HB9 := (((B6.setCell (p := ⟨w.heap.size, 0, none⟩) (Nat.le_refl _) (Value.string ⟨#[]⟩)).setCell (p := ⟨w.heap.size, 1, none⟩) (Nat.le_refl _) (Value.string ⟨#[]⟩)).setCell (p := ⟨w.heap.size, 2, none⟩) (Nat.le_refl _) (Value.int .i64 0)).setCell (p := ⟨w.heap.size, 3, none⟩) (Nat.le_refl _) (Value.string ⟨#[]⟩)
        exact bodyPost_ret (v := .tuple #[.agg #[Value.string ⟨#[]⟩, Value.string ⟨#[]⟩, Value.int .i64 0, Value.string ⟨#[]⟩], .bool false]) (by simp [results, Tryd.results20, go_sem, y0, y1, y2, y3]) rfl ⟨by rw [HPC.out.1, HPC.out.2, HG]; rfl, HB9⟩
      · have HG : Pu.goodC (⟨m, K, N, ⟨#[]⟩⟩ : Pu.CallD) s = true := by rw [Pu.goodC, hb, he]; rfl
        obtain ⟨x0, x1, x2, x3, xf⟩ := four_cells X6.out
        obtain ⟨y0, y1, y2, y3, yf⟩ := four_cells Y6.out
        go_wp2_with fail
        have HB9 := (((B6.setCell (p := ⟨w.heap.size, 0, none⟩) (Nat.le_refl _) (Value.string m)).setCell (p := ⟨w.heap.size, 1, none⟩) (Nat.le_refl _) (Value.string K)).setCell (p := ⟨w.heap.size, 2, none⟩) (Nat.le_refl _) (Value.int .i64 N)).setCell (p := ⟨w.heap.size, 3, none⟩) (Nat.le_refl _) (Value.string ⟨#[]⟩)
        exact bodyPost_ret (v := .tuple #[.agg #[Value.string m, Value.string K, Value.int .i64 N, Value.string ⟨#[]⟩], .bool true]) (by simp [results, Tryd.results20, go_sem, y0, y1, y2, y3]) rfl ⟨by rw [HPC.out.1, HPC.out.2, HG]; rfl, HB9⟩
  · go_enter Tryd.func20, Tryd.ntmps20
    go_wp2_with fail
    rw [hw0.out]
    refine (cutSp_c s _ (HM.out.below b0 hlM) (by omega)).mono ?_; rintro e w1 ⟨q, rfl, b1⟩
    rw [HMM.out, HR.out]
    have B1 := below_then b0 b1
    have Y1 := hide (row_b b1 Y0.out)
    have hL1 : w.heap.size < w1.heap.size := Nat.lt_of_lt_of_le hL0 b1.size
    obtain ⟨w2, hw2⟩ : ∃ w2, Hid (w1.alloc (.cells #[.string m, .string ⟨#[]⟩, .int .i64 0, .string ⟨#[]⟩] 36 : Obj) = w2) := ⟨_, rfl⟩
    have b2 : Below w1.heap.size w1 w2 := by rw [← hw2.out]; exact below_alloc (Below.refl _ _) _
    have B2 : Below w.heap.size w w2 := below_then B1 b2
    have X2 := hide (show w2.heap[w1.heap.size]? = some (.cells #[.string m, .string ⟨#[]⟩, .int .i64 0, .string ⟨#[]⟩] 36 : Obj) by rw [← hw2.out]; exact heap_new rfl)
    have Y2 := hide (row_b b2 Y1.out)
    have hL2 : w1.heap.size < w2.heap.size := by rw [← hw2.out]; simp
    clear b1 b2
    go_wp2_with fail
    rw [hw2.out]
    refine (iParseNumber_c r _ (HT.out.below B2 hlT) (HE.out.below B2 hlE)).mono ?_; rintro e w3 ⟨rfl, b3⟩
    have hnb := Pu.pn_bd r.toList
    obtain ⟨N, HN⟩ : ∃ N, Hid (Pu.pnV r.toList = N) := ⟨_, rfl⟩
    rw [HN.out] at hnb ⊢
    have hI2 : Pu.candI s = ⟨m, ⟨#[]⟩, N, ⟨#[]⟩⟩ := by rw [← HN.out]; exact HI.out
    replace HI := hide hI2
    have B3 := (below_then B2 b3).setCell (p := ⟨w1.heap.size, 2, none⟩) (by show w.heap.size ≤ w1.heap.size; omega) (Value.int .i64 N)
    have X3 := hide (row_b b3 X2.out)
    have Y3 := hide (row_far (g' := w1.heap.size) (j := 2) (u := Value.int .i64 N) (row_b b3 Y2.out) (by omega))
    have X4 := hide (row4_set (u := Value.int .i64 N) X3.out).2.1
    obtain ⟨_, _, _, _, _⟩ := four_cells X3.out
    clear b3
    go_wp2_with fail
    have HC : Hid (Pu.candI s = (⟨m, ⟨#[]⟩, N, ⟨#[]⟩⟩ : Pu.CallD)) := HI.out
    have HPC := hide (Pu.pcall_of HC.out)
    have hwf : CallD.wf (⟨m, ⟨#[]⟩, N, ⟨#[]⟩⟩ : Pu.CallD) := ⟨by show m.size ≤ maxLen; unfold maxLen; omega, by show (⟨#[]⟩ : ByteArray).size ≤ maxLen; unfold maxLen; first | omega | decide, WalkArith.wf_i64 (by show -9223372036854775808 ≤ (N : Int) ∧ (N : Int) ≤ 9223372036854775807; first | omega | decide), by show (⟨#[]⟩ : ByteArray).size ≤ maxLen; unfold maxLen; first | omega | decide⟩
    have HWF := hide hwf
    have htx : ((⟨m, ⟨#[]⟩, N, ⟨#[]⟩⟩ : Pu.CallD)).text.size ≤ 1048576 := by show (⟨#[]⟩ : ByteArray).size ≤ 1048576; first | omega | decide
    have HTX := hide htx
    clear hwf htx HI HC
    refine (iIsCall_c (⟨m, ⟨#[]⟩, N, ⟨#[]⟩⟩ : Pu.CallD) _ HWF.out).mono ?_; rintro e w5 ⟨rfl, b5⟩
    have B5 := below_then B3 b5
    have X5 := hide (row_b b5 X4.out)
    have Y5 := hide (row_b b5 Y3.out)
    have hne5 : ¬ w1.heap.size = w.heap.size := by omega
    clear b5
    rcases hb : Pu.callB (⟨m, ⟨#[]⟩, N, ⟨#[]⟩⟩ : Pu.CallD) with _ | _
    · have HG : Pu.goodC (⟨m, ⟨#[]⟩, N, ⟨#[]⟩⟩ : Pu.CallD) s = false := by rw [Pu.goodC, hb]; rfl
      obtain ⟨x0, x1, x2, x3, xf⟩ := four_cells X5.out
      obtain ⟨y0, y1, y2, y3, yf⟩ := four_cells Y5.out
      go_wp2_with fail
      have HB9 := (((B5.setCell (p := ⟨w.heap.size, 0, none⟩) (Nat.le_refl _) (Value.string ⟨#[]⟩)).setCell (p := ⟨w.heap.size, 1, none⟩) (Nat.le_refl _) (Value.string ⟨#[]⟩)).setCell (p := ⟨w.heap.size, 2, none⟩) (Nat.le_refl _) (Value.int .i64 0)).setCell (p := ⟨w.heap.size, 3, none⟩) (Nat.le_refl _) (Value.string ⟨#[]⟩)
      exact bodyPost_ret (v := .tuple #[.agg #[Value.string ⟨#[]⟩, Value.string ⟨#[]⟩, Value.int .i64 0, Value.string ⟨#[]⟩], .bool false]) (by simp [results, Tryd.results20, go_sem, y0, y1, y2, y3]) rfl ⟨by rw [HPC.out.1, HPC.out.2, HG]; rfl, HB9⟩
    · obtain ⟨_, _, _, _, _⟩ := four_cells X5.out
      go_wp2_with fail
      refine (iFormatCall_c (⟨m, ⟨#[]⟩, N, ⟨#[]⟩⟩ : Pu.CallD) _ (HT.out.below B5 hlT) HWF.out HTX.out).mono ?_; rintro e w6 ⟨rfl, b6⟩
      have B6 := below_then B5 b6
      have X6 := hide (row_b b6 X5.out)
      have Y6 := hide (row_b b6 Y5.out)
      clear b6
      rcases he : ((Pu.callT (⟨m, ⟨#[]⟩, N, ⟨#[]⟩⟩ : Pu.CallD)).toList == s.toList) with _ | _
      · have HG : Pu.goodC (⟨m, ⟨#[]⟩, N, ⟨#[]⟩⟩ : Pu.CallD) s = false := by rw [Pu.goodC, hb, he]; rfl
        obtain ⟨x0, x1, x2, x3, xf⟩ := four_cells X6.out
        obtain ⟨y0, y1, y2, y3, yf⟩ := four_cells Y6.out
        go_wp2_with fail
        have HB9 := (((B6.setCell (p := ⟨w.heap.size, 0, none⟩) (Nat.le_refl _) (Value.string ⟨#[]⟩)).setCell (p := ⟨w.heap.size, 1, none⟩) (Nat.le_refl _) (Value.string ⟨#[]⟩)).setCell (p := ⟨w.heap.size, 2, none⟩) (Nat.le_refl _) (Value.int .i64 0)).setCell (p := ⟨w.heap.size, 3, none⟩) (Nat.le_refl _) (Value.string ⟨#[]⟩)
        exact bodyPost_ret (v := .tuple #[.agg #[Value.string ⟨#[]⟩, Value.string ⟨#[]⟩, Value.int .i64 0, Value.string ⟨#[]⟩], .bool false]) (by simp [results, Tryd.results20, go_sem, y0, y1, y2, y3]) rfl ⟨by rw [HPC.out.1, HPC.out.2, HG]; rfl, HB9⟩
      · have HG : Pu.goodC (⟨m, ⟨#[]⟩, N, ⟨#[]⟩⟩ : Pu.CallD) s = true := by rw [Pu.goodC, hb, he]; rfl
        obtain ⟨x0, x1, x2, x3, xf⟩ := four_cells X6.out
        obtain ⟨y0, y1, y2, y3, yf⟩ := four_cells Y6.out
        go_wp2_with fail
        have HB9 := (((B6.setCell (p := ⟨w.heap.size, 0, none⟩) (Nat.le_refl _) (Value.string m)).setCell (p := ⟨w.heap.size, 1, none⟩) (Nat.le_refl _) (Value.string ⟨#[]⟩)).setCell (p := ⟨w.heap.size, 2, none⟩) (Nat.le_refl _) (Value.int .i64 N)).setCell (p := ⟨w.heap.size, 3, none⟩) (Nat.le_refl _) (Value.string ⟨#[]⟩)
        exact bodyPost_ret (v := .tuple #[.agg #[Value.string m, Value.string ⟨#[]⟩, Value.int .i64 N, Value.string ⟨#[]⟩], .bool true]) (by simp [results, Tryd.results20, go_sem, y0, y1, y2, y3]) rfl ⟨by rw [HPC.out.1, HPC.out.2, HG]; rfl, HB9⟩
  · go_enter Tryd.func20, Tryd.ntmps20
    go_wp2_with fail
    rw [hw0.out]
    refine (cutSp_c s _ (HM.out.below b0 hlM) (by omega)).mono ?_; rintro e w1 ⟨q, rfl, b1⟩
    rw [HMM.out, HR.out]
    have B1 := below_then b0 b1
    have Y1 := hide (row_b b1 Y0.out)
    have hL1 : w.heap.size < w1.heap.size := Nat.lt_of_lt_of_le hL0 b1.size
    obtain ⟨w2, hw2⟩ : ∃ w2, Hid (w1.alloc (.cells #[.string m, .string ⟨#[]⟩, .int .i64 0, .string r] 36 : Obj) = w2) := ⟨_, rfl⟩
    have b2 : Below w1.heap.size w1 w2 := by rw [← hw2.out]; exact below_alloc (Below.refl _ _) _
    have B2 : Below w.heap.size w w2 := below_then B1 b2
    have X2 := hide (show w2.heap[w1.heap.size]? = some (.cells #[.string m, .string ⟨#[]⟩, .int .i64 0, .string r] 36 : Obj) by rw [← hw2.out]; exact heap_new rfl)
    have Y2 := hide (row_b b2 Y1.out)
    have hL2 : w1.heap.size < w2.heap.size := by rw [← hw2.out]; simp
    clear b1 b2
    go_wp2_with fail
    rw [hw2.out]
    have HC : Hid (Pu.candI s = (⟨m, ⟨#[]⟩, 0, r⟩ : Pu.CallD)) := HI.out
    have HPC := hide (Pu.pcall_of HC.out)
    have hwf : CallD.wf (⟨m, ⟨#[]⟩, 0, r⟩ : Pu.CallD) := ⟨by show m.size ≤ maxLen; unfold maxLen; omega, by show (⟨#[]⟩ : ByteArray).size ≤ maxLen; unfold maxLen; first | omega | decide, WalkArith.wf_i64 (by show -9223372036854775808 ≤ (0 : Int) ∧ (0 : Int) ≤ 9223372036854775807; first | omega | decide), by show (r : ByteArray).size ≤ maxLen; unfold maxLen; first | omega | decide⟩
    have HWF := hide hwf
    have htx : ((⟨m, ⟨#[]⟩, 0, r⟩ : Pu.CallD)).text.size ≤ 1048576 := by show (r : ByteArray).size ≤ 1048576; first | omega | decide
    have HTX := hide htx
    clear hwf htx HI HC
    refine (iIsCall_c (⟨m, ⟨#[]⟩, 0, r⟩ : Pu.CallD) _ HWF.out).mono ?_; rintro e w5 ⟨rfl, b5⟩
    have B5 := below_then B2 b5
    have X5 := hide (row_b b5 X2.out)
    have Y5 := hide (row_b b5 Y2.out)
    have hne5 : ¬ w1.heap.size = w.heap.size := by omega
    clear b5
    rcases hb : Pu.callB (⟨m, ⟨#[]⟩, 0, r⟩ : Pu.CallD) with _ | _
    · have HG : Pu.goodC (⟨m, ⟨#[]⟩, 0, r⟩ : Pu.CallD) s = false := by rw [Pu.goodC, hb]; rfl
      obtain ⟨x0, x1, x2, x3, xf⟩ := four_cells X5.out
      obtain ⟨y0, y1, y2, y3, yf⟩ := four_cells Y5.out
      go_wp2_with fail
      have HB9 := (((B5.setCell (p := ⟨w.heap.size, 0, none⟩) (Nat.le_refl _) (Value.string ⟨#[]⟩)).setCell (p := ⟨w.heap.size, 1, none⟩) (Nat.le_refl _) (Value.string ⟨#[]⟩)).setCell (p := ⟨w.heap.size, 2, none⟩) (Nat.le_refl _) (Value.int .i64 0)).setCell (p := ⟨w.heap.size, 3, none⟩) (Nat.le_refl _) (Value.string ⟨#[]⟩)
      exact bodyPost_ret (v := .tuple #[.agg #[Value.string ⟨#[]⟩, Value.string ⟨#[]⟩, Value.int .i64 0, Value.string ⟨#[]⟩], .bool false]) (by simp [results, Tryd.results20, go_sem, y0, y1, y2, y3]) rfl ⟨by rw [HPC.out.1, HPC.out.2, HG]; rfl, HB9⟩
    · obtain ⟨_, _, _, _, _⟩ := four_cells X5.out
      go_wp2_with fail
      refine (iFormatCall_c (⟨m, ⟨#[]⟩, 0, r⟩ : Pu.CallD) _ (HT.out.below B5 hlT) HWF.out HTX.out).mono ?_; rintro e w6 ⟨rfl, b6⟩
      have B6 := below_then B5 b6
      have X6 := hide (row_b b6 X5.out)
      have Y6 := hide (row_b b6 Y5.out)
      clear b6
      rcases he : ((Pu.callT (⟨m, ⟨#[]⟩, 0, r⟩ : Pu.CallD)).toList == s.toList) with _ | _
      · have HG : Pu.goodC (⟨m, ⟨#[]⟩, 0, r⟩ : Pu.CallD) s = false := by rw [Pu.goodC, hb, he]; rfl
        obtain ⟨x0, x1, x2, x3, xf⟩ := four_cells X6.out
        obtain ⟨y0, y1, y2, y3, yf⟩ := four_cells Y6.out
        go_wp2_with fail
        have HB9 := (((B6.setCell (p := ⟨w.heap.size, 0, none⟩) (Nat.le_refl _) (Value.string ⟨#[]⟩)).setCell (p := ⟨w.heap.size, 1, none⟩) (Nat.le_refl _) (Value.string ⟨#[]⟩)).setCell (p := ⟨w.heap.size, 2, none⟩) (Nat.le_refl _) (Value.int .i64 0)).setCell (p := ⟨w.heap.size, 3, none⟩) (Nat.le_refl _) (Value.string ⟨#[]⟩)
        exact bodyPost_ret (v := .tuple #[.agg #[Value.string ⟨#[]⟩, Value.string ⟨#[]⟩, Value.int .i64 0, Value.string ⟨#[]⟩], .bool false]) (by simp [results, Tryd.results20, go_sem, y0, y1, y2, y3]) rfl ⟨by rw [HPC.out.1, HPC.out.2, HG]; rfl, HB9⟩
      · have HG : Pu.goodC (⟨m, ⟨#[]⟩, 0, r⟩ : Pu.CallD) s = true := by rw [Pu.goodC, hb, he]; rfl
        obtain ⟨x0, x1, x2, x3, xf⟩ := four_cells X6.out
        obtain ⟨y0, y1, y2, y3, yf⟩ := four_cells Y6.out
        go_wp2_with fail
        have HB9 := (((B6.setCell (p := ⟨w.heap.size, 0, none⟩) (Nat.le_refl _) (Value.string m)).setCell (p := ⟨w.heap.size, 1, none⟩) (Nat.le_refl _) (Value.string ⟨#[]⟩)).setCell (p := ⟨w.heap.size, 2, none⟩) (Nat.le_refl _) (Value.int .i64 0)).setCell (p := ⟨w.heap.size, 3, none⟩) (Nat.le_refl _) (Value.string r)
        exact bodyPost_ret (v := .tuple #[.agg #[Value.string m, Value.string ⟨#[]⟩, Value.int .i64 0, Value.string r], .bool true]) (by simp [results, Tryd.results20, go_sem, y0, y1, y2, y3]) rfl ⟨by rw [HPC.out.1, HPC.out.2, HG]; rfl, HB9⟩
  · go_enter Tryd.func20, Tryd.ntmps20
    go_wp2_with fail
    rw [hw0.out]
    refine (cutSp_c s _ (HM.out.below b0 hlM) (by omega)).mono ?_; rintro e w1 ⟨q, rfl, b1⟩
    rw [HMM.out, HR.out]
    have B1 := below_then b0 b1
    have Y1 := hide (row_b b1 Y0.out)
    have hL1 : w.heap.size < w1.heap.size := Nat.lt_of_lt_of_le hL0 b1.size
    obtain ⟨w2, hw2⟩ : ∃ w2, Hid (w1.alloc (.cells #[.string m, .string ⟨#[]⟩, .int .i64 0, .string ⟨#[]⟩] 36 : Obj) = w2) := ⟨_, rfl⟩
    have b2 : Below w1.heap.size w1 w2 := by rw [← hw2.out]; exact below_alloc (Below.refl _ _) _
    have B2 : Below w.heap.size w w2 := below_then B1 b2
    have X2 := hide (show w2.heap[w1.heap.size]? = some (.cells #[.string m, .string ⟨#[]⟩, .int .i64 0, .string ⟨#[]⟩] 36 : Obj) by rw [← hw2.out]; exact heap_new rfl)
    have Y2 := hide (row_b b2 Y1.out)
    have hL2 : w1.heap.size < w2.heap.size := by rw [← hw2.out]; simp
    clear b1 b2
    go_wp2_with fail
    rw [hw2.out]
    have HC : Hid (Pu.candI s = (⟨m, ⟨#[]⟩, 0, ⟨#[]⟩⟩ : Pu.CallD)) := HI.out
    have HPC := hide (Pu.pcall_of HC.out)
    have hwf : CallD.wf (⟨m, ⟨#[]⟩, 0, ⟨#[]⟩⟩ : Pu.CallD) := ⟨by show m.size ≤ maxLen; unfold maxLen; omega, by show (⟨#[]⟩ : ByteArray).size ≤ maxLen; unfold maxLen; first | omega | decide, WalkArith.wf_i64 (by show -9223372036854775808 ≤ (0 : Int) ∧ (0 : Int) ≤ 9223372036854775807; first | omega | decide), by show (⟨#[]⟩ : ByteArray).size ≤ maxLen; unfold maxLen; first | omega | decide⟩
    have HWF := hide hwf
    have htx : ((⟨m, ⟨#[]⟩, 0, ⟨#[]⟩⟩ : Pu.CallD)).text.size ≤ 1048576 := by show (⟨#[]⟩ : ByteArray).size ≤ 1048576; first | omega | decide
    have HTX := hide htx
    clear hwf htx HI HC
    refine (iIsCall_c (⟨m, ⟨#[]⟩, 0, ⟨#[]⟩⟩ : Pu.CallD) _ HWF.out).mono ?_; rintro e w5 ⟨rfl, b5⟩
    have B5 := below_then B2 b5
    have X5 := hide (row_b b5 X2.out)
    have Y5 := hide (row_b b5 Y2.out)
    have hne5 : ¬ w1.heap.size = w.heap.size := by omega
    clear b5
    rcases hb : Pu.callB (⟨m, ⟨#[]⟩, 0, ⟨#[]⟩⟩ : Pu.CallD) with _ | _
    · have HG : Pu.goodC (⟨m, ⟨#[]⟩, 0, ⟨#[]⟩⟩ : Pu.CallD) s = false := by rw [Pu.goodC, hb]; rfl
      obtain ⟨x0, x1, x2, x3, xf⟩ := four_cells X5.out
      obtain ⟨y0, y1, y2, y3, yf⟩ := four_cells Y5.out
      go_wp2_with fail
      have HB9 := (((B5.setCell (p := ⟨w.heap.size, 0, none⟩) (Nat.le_refl _) (Value.string ⟨#[]⟩)).setCell (p := ⟨w.heap.size, 1, none⟩) (Nat.le_refl _) (Value.string ⟨#[]⟩)).setCell (p := ⟨w.heap.size, 2, none⟩) (Nat.le_refl _) (Value.int .i64 0)).setCell (p := ⟨w.heap.size, 3, none⟩) (Nat.le_refl _) (Value.string ⟨#[]⟩)
      exact bodyPost_ret (v := .tuple #[.agg #[Value.string ⟨#[]⟩, Value.string ⟨#[]⟩, Value.int .i64 0, Value.string ⟨#[]⟩], .bool false]) (by simp [results, Tryd.results20, go_sem, y0, y1, y2, y3]) rfl ⟨by rw [HPC.out.1, HPC.out.2, HG]; rfl, HB9⟩
    · obtain ⟨_, _, _, _, _⟩ := four_cells X5.out
      go_wp2_with fail
      refine (iFormatCall_c (⟨m, ⟨#[]⟩, 0, ⟨#[]⟩⟩ : Pu.CallD) _ (HT.out.below B5 hlT) HWF.out HTX.out).mono ?_; rintro e w6 ⟨rfl, b6⟩
      have B6 := below_then B5 b6
      have X6 := hide (row_b b6 X5.out)
      have Y6 := hide (row_b b6 Y5.out)
      clear b6
      rcases he : ((Pu.callT (⟨m, ⟨#[]⟩, 0, ⟨#[]⟩⟩ : Pu.CallD)).toList == s.toList) with _ | _
      · have HG : Pu.goodC (⟨m, ⟨#[]⟩, 0, ⟨#[]⟩⟩ : Pu.CallD) s = false := by rw [Pu.goodC, hb, he]; rfl
        obtain ⟨x0, x1, x2, x3, xf⟩ := four_cells X6.out
        obtain ⟨y0, y1, y2, y3, yf⟩ := four_cells Y6.out
        go_wp2_with fail
        have HB9 := (((B6.setCell (p := ⟨w.heap.size, 0, none⟩) (Nat.le_refl _) (Value.string ⟨#[]⟩)).setCell (p := ⟨w.heap.size, 1, none⟩) (Nat.le_refl _) (Value.string ⟨#[]⟩)).setCell (p := ⟨w.heap.size, 2, none⟩) (Nat.le_refl _) (Value.int .i64 0)).setCell (p := ⟨w.heap.size, 3, none⟩) (Nat.le_refl _) (Value.string ⟨#[]⟩)
        exact bodyPost_ret (v := .tuple #[.agg #[Value.string ⟨#[]⟩, Value.string ⟨#[]⟩, Value.int .i64 0, Value.string ⟨#[]⟩], .bool false]) (by simp [results, Tryd.results20, go_sem, y0, y1, y2, y3]) rfl ⟨by rw [HPC.out.1, HPC.out.2, HG]; rfl, HB9⟩
      · have HG : Pu.goodC (⟨m, ⟨#[]⟩, 0, ⟨#[]⟩⟩ : Pu.CallD) s = true := by rw [Pu.goodC, hb, he]; rfl
        obtain ⟨x0, x1, x2, x3, xf⟩ := four_cells X6.out
        obtain ⟨y0, y1, y2, y3, yf⟩ := four_cells Y6.out
        go_wp2_with fail
        have HB9 := (((B6.setCell (p := ⟨w.heap.size, 0, none⟩) (Nat.le_refl _) (Value.string m)).setCell (p := ⟨w.heap.size, 1, none⟩) (Nat.le_refl _) (Value.string ⟨#[]⟩)).setCell (p := ⟨w.heap.size, 2, none⟩) (Nat.le_refl _) (Value.int .i64 0)).setCell (p := ⟨w.heap.size, 3, none⟩) (Nat.le_refl _) (Value.string ⟨#[]⟩)
        exact bodyPost_ret (v := .tuple #[.agg #[Value.string m, Value.string ⟨#[]⟩, Value.int .i64 0, Value.string ⟨#[]⟩], .bool true]) (by simp [results, Tryd.results20, go_sem, y0, y1, y2, y3]) rfl ⟨by rw [HPC.out.1, HPC.out.2, HG]; rfl, HB9⟩
theorem rd_sub {w : World} {g o c a b n : Nat} {l : List ByteArray} (h : RdStr w (.slice (some ⟨g, o, none⟩) n c) l) (hn : n = l.length) (hab : a ≤ b) (hb : b ≤ n) : RdStr w (.slice (some ⟨g, o + a, none⟩) (b - a) (c - a)) ((l.take b).drop a) := by
  subst hn
  obtain ⟨A, c', e, h1, h2, h3⟩ := h
  cases e
  have hl : ((l.take b).drop a).length = b - a := by rw [List.length_drop, List.length_take]; omega
  refine ⟨some ⟨g, o + a, none⟩, c - a, by rw [hl], by omega, by omega, fun hp => ?_⟩
  obtain ⟨g', o', e', hgs, hc⟩ := h3 (by omega)
  cases e'
  refine ⟨g, o + a, rfl, hgs, fun i x hx j u hu => ?_⟩
  rw [List.getElem?_drop, List.getElem?_take] at hx
  split at hx
  · have := hc (a + i) x hx j u hu
    rwa [show o + (a + i) * 1 + j = o + a + i * 1 + j by omega] at this
  · cases hx
theorem rd_nil {w : World} {A : Option Addr} {c : Nat} (h : c ≤ maxLen) : RdStr w (.slice A 0 c) [] := ⟨A, c, rfl, Nat.zero_le _, h, fun h => absurd h (by simp)⟩
theorem rd_last {w : World} {g o : Nat} {m : ByteArray} {rest : List ByteArray} (h : Hid (RdFrom w 1 strEn g o (m :: rest))) : w.cell? ⟨g, o, none⟩ = some (.string m) ∧ ∃ z : ByteArray, (m :: rest).getLastD Pu.nulB = z ∧ z ∈ m :: rest ∧ w.cell? ⟨g, o + rest.length, none⟩ = some (.string z) := by
  have h0 := h.out.2 0 m rfl 0 _ rfl
  refine ⟨by simpa using h0, (m :: rest).getLast (by simp), rfl, List.getLast_mem _, ?_⟩
  have h1 := h.out.2 rest.length ((m :: rest).getLast (by simp)) (by rw [List.getLast_eq_getElem]; simp) 0 _ rfl
  simpa using h1
theorem l1Min_c (a b : Int) (w : World) : Calls Tryd.prog 38 #[.int .i64 a, .int .i64 b] w fun e w' => e = .returned (.int .i64 (if a < b then a else b)) ∧ w = w' := by
  by_cases h : a < b
  · go_enter Tryd.func38, Tryd.ntmps38
    go_wp2
    go_ret
    exact ⟨rfl, rfl⟩
  · go_enter Tryd.func38, Tryd.ntmps38
    go_wp2
    go_ret
    exact ⟨rfl, rfl⟩
theorem splitSp_c (x : ByteArray) (w : World) (hx : x.size ≤ 16777216) :
    Calls Tryd.prog 7 #[.string x, .string ⟨#[32]⟩] w fun e w' => ∃ v, e = .returned v ∧ OwnL w' w.heap.size 9 1 strEn v (Pu.splitA Pu.spB x) ∧ Below w.heap.size w w' := sSplitAt_c x ⟨#[32]⟩ w hx (by decide)
theorem joinSp_c (v : Value) (l : List ByteArray) (w : World) (hv : RdStr w v l) (hl : l.length ≤ 1048576) (ht : Pu.tot l ≤ 1048576) :
    Calls Tryd.prog 37 #[v, .string ⟨#[32]⟩] w fun e w' => e = .returned (.string (Pu.joinB Pu.spB l)) ∧ Below w.heap.size w w' := sJoinWith_c v l ⟨#[32]⟩ w hv hl (by decide) ht
theorem Pu.tot_drop (l : List ByteArray) (k : Nat) : Pu.tot (l.drop k) ≤ Pu.tot l := by
  conv => rhs; rw [← List.take_append_drop k l, Pu.tot_app]
  omega
theorem Pu.getD_G {g p h l : Bool} {m z : ByteArray} {rest : List ByteArray} {s : ByteArray} (hS : Pu.splitA Pu.spB s = m :: rest) (hz : (m :: rest).getLastD Pu.nulB = z)
    (hg : (m.toList == Pu.mGet) = g) (hp : (m.toList == Pu.mPut) = p) (hh : (m.toList == Pu.mHear) = h) (hl : (m.toList == Pu.mLoad) = l) : Pu.candS s = Pu.candG g p h l m z (m :: rest) := by
  rw [Pu.candS, hS, Pu.candL]
  simp only [List.headD, hz, hg, hp, hh, hl]
set_option maxHeartbeats 4000000 in
theorem sParseCall_c (s : ByteArray) (w : World) (hs : s.size ≤ 1048576) :
    Calls Tryd.prog 19 #[.string s] w fun e w' => e = .returned (.tuple #[callV (Pu.pcallC s), .bool (Pu.pcallB s)]) ∧ Below w.heap.size w w' := by
  obtain ⟨m, rest, hL⟩ := Pu.splitA_cons Pu.spB s
  have HL := hide hL
  have hjr := Pu.join_rest s m rest hL
  have hlen := Pu.splitA_le Pu.spB s
  have htot := Pu.splitA_tot Pu.spB _ s (Nat.le_refl _)
  have hms : ∀ x ∈ m :: rest, x.size ≤ s.size := fun x hx => Pu.splitA_size (sep := Pu.spB) (by rw [hL]; exact hx)
  rw [hL] at hlen htot
  have hmz := hms m (by simp)
  have HMS := hide hms
  clear hL hms
  obtain ⟨G, hG⟩ : ∃ b, (m.toList == [71, 101, 116]) = b := ⟨_, rfl⟩
  obtain ⟨P, hP⟩ : ∃ b, (m.toList == [80, 117, 116]) = b := ⟨_, rfl⟩
  obtain ⟨H, hH⟩ : ∃ b, (m.toList == [72, 101, 97, 114]) = b := ⟨_, rfl⟩
  obtain ⟨L, hL⟩ : ∃ b, (m.toList == [76, 111, 97, 100]) = b := ⟨_, rfl⟩
  have hm := Pu.method_cases m.toList
  simp only [Pu.mGet, Pu.mPut, Pu.mHear, Pu.mLoad, hG, hP, hH, hL] at hm
  have HCG : Hid (∀ z, (m :: rest).getLastD Pu.nulB = z → Pu.candS s = Pu.candG G P H L m z (m :: rest)) := fun z hz => Pu.getD_G HL.out hz hG hP hH hL
  obtain ⟨w0, hw0⟩ : ∃ w0, Hid (w.alloc (.cells #[.string ⟨#[]⟩, .string ⟨#[]⟩, .int .i64 0, .string ⟨#[]⟩] 36 : Obj) = w0) := ⟨_, rfl⟩
  have b0 : Below w.heap.size w w0 := by rw [← hw0.out]; exact below_alloc (Below.refl _ _) _
  have Y0 := hide (show w0.heap[w.heap.size]? = some (.cells #[.string ⟨#[]⟩, .string ⟨#[]⟩, .int .i64 0, .string ⟨#[]⟩] 36 : Obj) by rw [← hw0.out]; exact heap_new rfl)
  have hL0 : w.heap.size < w0.heap.size := by rw [← hw0.out]; simp
  obtain ⟨N, hN⟩ : ∃ N, N = rest.length + 1 := ⟨_, rfl⟩
  have HN := hide (show (m :: rest).length = N by rw [hN]; rfl)
  rw [HN.out] at hlen
  have e2 : 0 ≤ (N : Int) - 1 := by omega
  have e2' : 1 ≤ (N : Int) := by omega
  have e3 : (N : Int) - 1 < (N : Int) := by omega
  have e1 : IntKind.i64.wrap ((N : Int) - 1) = (N : Int) - 1 := IntWalk.i64_in _ (by omega)
  have e4 : ((N : Int) - 1).toNat = N - 1 := by omega
  have HNr := hide hN
  clear hN
  rcases hm with ⟨rfl, rfl, rfl, rfl⟩ | ⟨rfl, rfl, rfl, rfl⟩ | ⟨rfl, rfl, rfl, rfl⟩ | ⟨rfl, rfl, rfl, rfl⟩ | ⟨rfl, rfl, rfl, rfl⟩
  all_goals
    go_enter Tryd.func19, Tryd.ntmps19
    go_wp2_with fail
    rw [hw0.out]
    refine (splitSp_c s _ (by omega)).mono ?_; rintro e w1 ⟨v1, rfl, o1, b1⟩
    rw [HL.out] at o1
    have r1 : RdStr w1 v1 (m :: rest) := o1.rd (fun _ => rfl)
    obtain ⟨A1, k1, rfl, hlc, hcm, hA1⟩ := r1.open_
    obtain ⟨g, o, rfl, hg, HC⟩ := hA1.at_ (by simp)
    obtain ⟨p0, z, hz, hzm, pz⟩ := rd_last HC
    rw [HN.out] at r1 hlc ⊢
    have hzz := HMS.out z hzm
    have HCZ := hide (HCG.out z hz)
    have R1 := hide r1
    have B1 := below_then b0 b1
    have Y1 := hide (row_b b1 Y0.out)
    have hL1 : w.heap.size < w1.heap.size := Nat.lt_of_lt_of_le hL0 b1.size
    have pz' : w1.cell? ⟨g, o + (N - 1), none⟩ = some (.string z) := by rw [show N - 1 = rest.length by have := HNr.out; omega]; exact pz
    clear pz hz o1 r1 hA1
    obtain ⟨w2, hw2⟩ : ∃ w2, Hid (w1.alloc (.cells #[.string m, .string ⟨#[]⟩, .int .i64 0, .string ⟨#[]⟩] 36 : Obj) = w2) := ⟨_, rfl⟩
    have b2 : Below w1.heap.size w1 w2 := by rw [← hw2.out]; exact below_alloc (Below.refl _ _) _
    have B2 : Below w.heap.size w w2 := below_then B1 b2
    have X2 := hide (show w2.heap[w1.heap.size]? = some (.cells #[.string m, .string ⟨#[]⟩, .int .i64 0, .string ⟨#[]⟩] 36 : Obj) by rw [← hw2.out]; exact heap_new rfl)
    have Y2 := hide (row_b b2 Y1.out)
    have hL2 : w1.heap.size < w2.heap.size := by rw [← hw2.out]; simp
    obtain ⟨V, HV⟩ : ∃ V, Hid (Pu.pnV z.toList = V) := ⟨_, rfl⟩
    have hvb := Pu.pn_bd z.toList
    rw [HV.out] at hvb
    go_wp2_with fail
    rw [hw2.out]
    refine (sParseNumber_c z _ (by unfold maxLen; omega)).mono ?_; rintro e w3 ⟨rfl, b3⟩
    rw [HV.out]
    have d3 := below_then b2 b3
    have B3 := below_then B2 b3
    have X3 := hide (row_b b3 X2.out)
    have Y3 := hide (row_b b3 Y2.out)
    have hL3 : w1.heap.size < w3.heap.size := Nat.lt_of_lt_of_le hL2 b3.size
    have q0 : w3.cell? ⟨g, o, none⟩ = some (.string m) := (d3.cell (p := ⟨g, o, none⟩) hg).trans p0
    have R3 := hide (RdL.below R1.out d3 (Nat.le_refl _))
    clear b1 b2 b3 d3 p0 pz'
    obtain ⟨_, _, _, _, _⟩ := four_cells X3.out
  · have HC : Hid (Pu.candS s = ⟨m, z, 0, ⟨#[]⟩⟩) := HCZ.out
    have B4 := B3.setCell (p := ⟨w1.heap.size, 1, none⟩) (by show w.heap.size ≤ w1.heap.size; omega) (Value.string z)
    have X4 := hide (row4_set (u := Value.string z) X3.out).1
    have Y4 := hide (row_far (g' := w1.heap.size) (j := 1) (u := Value.string z) Y3.out (by omega))
    go_wp2_with fail
    have hwf : CallD.wf (⟨m, z, 0, ⟨#[]⟩⟩ : Pu.CallD) := ⟨by show m.size ≤ maxLen; unfold maxLen; omega, by show (z : ByteArray).size ≤ maxLen; unfold maxLen; first | omega | decide, WalkArith.wf_i64 (by show -9223372036854775808 ≤ (0 : Int) ∧ (0 : Int) ≤ 9223372036854775807; first | omega | decide), by show (⟨#[]⟩ : ByteArray).size ≤ maxLen; unfold maxLen; first | omega | decide⟩
    have HWF := hide hwf
    have htx : ((⟨m, z, 0, ⟨#[]⟩⟩ : Pu.CallD)).text.size ≤ 1048576 := by show (⟨#[]⟩ : ByteArray).size ≤ 1048576; first | omega | decide
    have HTX := hide htx
    clear hwf htx
    refine (sFormatCall_c (⟨m, z, 0, ⟨#[]⟩⟩ : Pu.CallD) _ HWF.out HTX.out).mono ?_; rintro e w6 ⟨rfl, b6⟩
    have B6 := below_then B4 b6
    have X6 := hide (row_b b6 X4.out)
    have Y6 := hide (row_b b6 Y4.out)
    have hne6 : ¬ w1.heap.size = w.heap.size := by omega
    clear b6
    rcases he : ((Pu.callT (⟨m, z, 0, ⟨#[]⟩⟩ : Pu.CallD)).toList == s.toList) with _ | _
    · have HG := hide (Pu.spec_bad (s := s) (.inl (by rw [HC.out]; exact he)))
      obtain ⟨x0, x1, x2, x3, xf⟩ := four_cells X6.out
      obtain ⟨y0, y1, y2, y3, yf⟩ := four_cells Y6.out
      go_wp2_with fail
      have HB9 := (((B6.setCell (p := ⟨w.heap.size, 0, none⟩) (Nat.le_refl _) (Value.string ⟨#[]⟩)).setCell (p := ⟨w.heap.size, 1, none⟩) (Nat.le_refl _) (Value.string ⟨#[]⟩)).setCell (p := ⟨w.heap.size, 2, none⟩) (Nat.le_refl _) (Value.int .i64 0)).setCell (p := ⟨w.heap.size, 3, none⟩) (Nat.le_refl _) (Value.string ⟨#[]⟩)
      exact bodyPost_ret (v := .tuple #[.agg #[Value.string ⟨#[]⟩, Value.string ⟨#[]⟩, Value.int .i64 0, Value.string ⟨#[]⟩], .bool false]) (by simp [results, Tryd.results19, go_sem, y0, y1, y2, y3]) rfl ⟨by rw [HG.out.1, HG.out.2]; first | rfl | rw [HC.out]; rfl, HB9⟩
    · rcases hn : (s.toList == []) with _ | _
      · have HG := hide (Pu.spec_good (s := s) (by rw [HC.out]; exact he) hn)
        obtain ⟨x0, x1, x2, x3, xf⟩ := four_cells X6.out
        obtain ⟨y0, y1, y2, y3, yf⟩ := four_cells Y6.out
        go_wp2_with fail
        have HB9 := (((B6.setCell (p := ⟨w.heap.size, 0, none⟩) (Nat.le_refl _) (Value.string m)).setCell (p := ⟨w.heap.size, 1, none⟩) (Nat.le_refl _) (Value.string z)).setCell (p := ⟨w.heap.size, 2, none⟩) (Nat.le_refl _) (Value.int .i64 0)).setCell (p := ⟨w.heap.size, 3, none⟩) (Nat.le_refl _) (Value.string ⟨#[]⟩)
        exact bodyPost_ret (v := .tuple #[.agg #[Value.string m, Value.string z, Value.int .i64 0, Value.string ⟨#[]⟩], .bool true]) (by simp [results, Tryd.results19, go_sem, y0, y1, y2, y3]) rfl ⟨by rw [HG.out.1, HG.out.2]; first | rfl | rw [HC.out]; rfl, HB9⟩
      · have HG := hide (Pu.spec_bad (s := s) (.inr hn))
        obtain ⟨x0, x1, x2, x3, xf⟩ := four_cells X6.out
        obtain ⟨y0, y1, y2, y3, yf⟩ := four_cells Y6.out
        go_wp2_with fail
        have HB9 := (((B6.setCell (p := ⟨w.heap.size, 0, none⟩) (Nat.le_refl _) (Value.string ⟨#[]⟩)).setCell (p := ⟨w.heap.size, 1, none⟩) (Nat.le_refl _) (Value.string ⟨#[]⟩)).setCell (p := ⟨w.heap.size, 2, none⟩) (Nat.le_refl _) (Value.int .i64 0)).setCell (p := ⟨w.heap.size, 3, none⟩) (Nat.le_refl _) (Value.string ⟨#[]⟩)
        exact bodyPost_ret (v := .tuple #[.agg #[Value.string ⟨#[]⟩, Value.string ⟨#[]⟩, Value.int .i64 0, Value.string ⟨#[]⟩], .bool false]) (by simp [results, Tryd.results19, go_sem, y0, y1, y2, y3]) rfl ⟨by rw [HG.out.1, HG.out.2]; first | rfl | rw [HC.out]; rfl, HB9⟩
  · obtain ⟨J, HJ⟩ : ∃ J, Hid (Pu.joinB Pu.spB (((m :: rest).take (N - min 1 (N - 1))).drop 1) = J) := ⟨_, rfl⟩
    have HC : Hid (Pu.candS s = ⟨m, J, V, ⟨#[]⟩⟩) := by rw [Hid, HCZ.out, ← HJ.out, ← HV.out, ← HN.out]; rfl
    have hjt : Pu.tot (((m :: rest).take (N - min 1 (N - 1))).drop 1) ≤ s.size := Nat.le_trans (Pu.tot_drop _ _) (Nat.le_trans (Pu.tot_take_le _ _) htot)
    have hjl : (((m :: rest).take (N - min 1 (N - 1))).drop 1).length ≤ 1048576 := by rw [List.length_drop, List.length_take, HN.out]; omega
    have hjz := Pu.joinB_sz Pu.spB (((m :: rest).take (N - min 1 (N - 1))).drop 1)
    rw [HJ.out, show Pu.spB.size = 1 from rfl] at hjz
    have hjz9 : J.size ≤ 4194304 := by omega
    clear hjz
    have HJL := hide hjl
    by_cases hN1 : N = 1
    · have hln : ((m :: rest).take (N - min 1 (N - 1))).drop 1 = [] := List.drop_eq_nil_of_le (by rw [List.length_take]; omega)
      have HJ0 : Hid (Pu.joinB Pu.spB [] = J) := by rw [Hid, ← HJ.out, hln]
      have hmn : (if (1 : Int) < 0 then (1 : Int) else 0) = 0 := by decide
      have HK1 := hide (show k1 ≤ maxLen by unfold maxLen; omega)
      clear hln hjl hjt
      go_wp2_with (first
        | (go_at_call 38; refine (l1Min_c _ _ _).mono ?_; rintro e w' ⟨rfl, rfl⟩; rw [hmn])
        | (go_at_call 37; refine (joinSp_c _ [] _ (rd_nil (Nat.le_trans (by omega) HK1.out)) (by simp) (by simp [Pu.tot])).mono ?_; rintro e w4 ⟨rfl, b4⟩; rw [HJ0.out]; have B4 := ((below_then B3 b4).setCell (p := ⟨w1.heap.size, 1, none⟩) (by show w.heap.size ≤ w1.heap.size; omega) (Value.string J)).setCell (p := ⟨w1.heap.size, 2, none⟩) (by show w.heap.size ≤ w1.heap.size; omega) (Value.int .i64 V); have X4' := hide (row_b b4 X3.out); have X5' := hide (row4_set (u := Value.string J) X4'.out).1; have X4 := hide (row4_set (u := Value.int .i64 V) X5'.out).2.1; have Y4 := hide (row_far (g' := w1.heap.size) (j := 2) (u := Value.int .i64 V) (row_far (g' := w1.heap.size) (j := 1) (u := Value.string J) (row_b b4 Y3.out) (by omega)) (by omega)); obtain ⟨_, _, _, _, _⟩ := four_cells X4'.out))
      have hwf : CallD.wf (⟨m, J, V, ⟨#[]⟩⟩ : Pu.CallD) := ⟨by show m.size ≤ maxLen; unfold maxLen; omega, by show (J : ByteArray).size ≤ maxLen; unfold maxLen; first | omega | decide, WalkArith.wf_i64 (by show -9223372036854775808 ≤ (V : Int) ∧ (V : Int) ≤ 9223372036854775807; first | omega | decide), by show (⟨#[]⟩ : ByteArray).size ≤ maxLen; unfold maxLen; first | omega | decide⟩
      have HWF := hide hwf
      have htx : ((⟨m, J, V, ⟨#[]⟩⟩ : Pu.CallD)).text.size ≤ 1048576 := by show (⟨#[]⟩ : ByteArray).size ≤ 1048576; first | omega | decide
      have HTX := hide htx
      clear hwf htx
      refine (sFormatCall_c (⟨m, J, V, ⟨#[]⟩⟩ : Pu.CallD) _ HWF.out HTX.out).mono ?_; rintro e w6 ⟨rfl, b6⟩
      have B6 := below_then B4 b6
      have X6 := hide (row_b b6 X4.out)
      have Y6 := hide (row_b b6 Y4.out)
      have hne6 : ¬ w1.heap.size = w.heap.size := by omega
      clear b6
      rcases he : ((Pu.callT (⟨m, J, V, ⟨#[]⟩⟩ : Pu.CallD)).toList == s.toList) with _ | _
      · have HG := hide (Pu.spec_bad (s := s) (.inl (by rw [HC.out]; exact he)))
        obtain ⟨x0, x1, x2, x3, xf⟩ := four_cells X6.out
        obtain ⟨y0, y1, y2, y3, yf⟩ := four_cells Y6.out
        go_wp2_with fail
        have HB9 := (((B6.setCell (p := ⟨w.heap.size, 0, none⟩) (Nat.le_refl _) (Value.string ⟨#[]⟩)).setCell (p := ⟨w.heap.size, 1, none⟩) (Nat.le_refl _) (Value.string ⟨#[]⟩)).setCell (p := ⟨w.heap.size, 2, none⟩) (Nat.le_refl _) (Value.int .i64 0)).setCell (p := ⟨w.heap.size, 3, none⟩) (Nat.le_refl _) (Value.string ⟨#[]⟩)
        exact bodyPost_ret (v := .tuple #[.agg #[Value.string ⟨#[]⟩, Value.string ⟨#[]⟩, Value.int .i64 0, Value.string ⟨#[]⟩], .bool false]) (by simp [results, Tryd.results19, go_sem, y0, y1, y2, y3]) rfl ⟨by rw [HG.out.1, HG.out.2]; first | rfl | rw [HC.out]; rfl, HB9⟩
      · rcases hn : (s.toList == []) with _ | _
        · have HG := hide (Pu.spec_good (s := s) (by rw [HC.out]; exact he) hn)
          obtain ⟨x0, x1, x2, x3, xf⟩ := four_cells X6.out
          obtain ⟨y0, y1, y2, y3, yf⟩ := four_cells Y6.out
          go_wp2_with fail
          have HB9 := (((B6.setCell (p := ⟨w.heap.size, 0, none⟩) (Nat.le_refl _) (Value.string m)).setCell (p := ⟨w.heap.size, 1, none⟩) (Nat.le_refl _) (Value.string J)).setCell (p := ⟨w.heap.size, 2, none⟩) (Nat.le_refl _) (Value.int .i64 V)).setCell (p := ⟨w.heap.size, 3, none⟩) (Nat.le_refl _) (Value.string ⟨#[]⟩)
          exact bodyPost_ret (v := .tuple #[.agg #[Value.string m, Value.string J, Value.int .i64 V, Value.string ⟨#[]⟩], .bool true]) (by simp [results, Tryd.results19, go_sem, y0, y1, y2, y3]) rfl ⟨by rw [HG.out.1, HG.out.2]; first | rfl | rw [HC.out]; rfl, HB9⟩
        · have HG := hide (Pu.spec_bad (s := s) (.inr hn))
          obtain ⟨x0, x1, x2, x3, xf⟩ := four_cells X6.out
          obtain ⟨y0, y1, y2, y3, yf⟩ := four_cells Y6.out
          go_wp2_with fail
          have HB9 := (((B6.setCell (p := ⟨w.heap.size, 0, none⟩) (Nat.le_refl _) (Value.string ⟨#[]⟩)).setCell (p := ⟨w.heap.size, 1, none⟩) (Nat.le_refl _) (Value.string ⟨#[]⟩)).setCell (p := ⟨w.heap.size, 2, none⟩) (Nat.le_refl _) (Value.int .i64 0)).setCell (p := ⟨w.heap.size, 3, none⟩) (Nat.le_refl _) (Value.string ⟨#[]⟩)
          exact bodyPost_ret (v := .tuple #[.agg #[Value.string ⟨#[]⟩, Value.string ⟨#[]⟩, Value.int .i64 0, Value.string ⟨#[]⟩], .bool false]) (by simp [results, Tryd.results19, go_sem, y0, y1, y2, y3]) rfl ⟨by rw [HG.out.1, HG.out.2]; first | rfl | rw [HC.out]; rfl, HB9⟩
      go_wp2_with (first
        | (go_at_call 38; refine (l1Min_c _ _ _).mono ?_; rintro e w' ⟨rfl, rfl⟩; rw [hmn])
        | (go_at_call 37; refine (joinSp_c _ [] _ (rd_nil (Nat.le_trans (by omega) HK1.out)) (by simp) (by simp [Pu.tot])).mono ?_; rintro e w4 ⟨rfl, b4⟩; rw [HJ0.out]; have B4 := ((below_then B3 b4).setCell (p := ⟨w1.heap.size, 1, none⟩) (by show w.heap.size ≤ w1.heap.size; omega) (Value.string J)).setCell (p := ⟨w1.heap.size, 2, none⟩) (by show w.heap.size ≤ w1.heap.size; omega) (Value.int .i64 V); have X4' := hide (row_b b4 X3.out); have X5' := hide (row4_set (u := Value.string J) X4'.out).1; have X4 := hide (row4_set (u := Value.int .i64 V) X5'.out).2.1; have Y4 := hide (row_far (g' := w1.heap.size) (j := 2) (u := Value.int .i64 V) (row_far (g' := w1.heap.size) (j := 1) (u := Value.string J) (row_b b4 Y3.out) (by omega)) (by omega)); obtain ⟨_, _, _, _, _⟩ := four_cells X4'.out))
      have hwf : CallD.wf (⟨m, J, V, ⟨#[]⟩⟩ : Pu.CallD) := ⟨by show m.size ≤ maxLen; unfold maxLen; omega, by show (J : ByteArray).size ≤ maxLen; unfold maxLen; first | omega | decide, WalkArith.wf_i64 (by show -9223372036854775808 ≤ (V : Int) ∧ (V : Int) ≤ 9223372036854775807; first | omega | decide), by show (⟨#[]⟩ : ByteArray).size ≤ maxLen; unfold maxLen; first | omega | decide⟩
      have HWF := hide hwf
      have htx : ((⟨m, J, V, ⟨#[]⟩⟩ : Pu.CallD)).text.size ≤ 1048576 := by show (⟨#[]⟩ : ByteArray).size ≤ 1048576; first | omega | decide
      have HTX := hide htx
      clear hwf htx
      refine (sFormatCall_c (⟨m, J, V, ⟨#[]⟩⟩ : Pu.CallD) _ HWF.out HTX.out).mono ?_; rintro e w6 ⟨rfl, b6⟩
      have B6 := below_then B4 b6
      have X6 := hide (row_b b6 X4.out)
      have Y6 := hide (row_b b6 Y4.out)
      have hne6 : ¬ w1.heap.size = w.heap.size := by omega
      clear b6
      rcases he : ((Pu.callT (⟨m, J, V, ⟨#[]⟩⟩ : Pu.CallD)).toList == s.toList) with _ | _
      · have HG := hide (Pu.spec_bad (s := s) (.inl (by rw [HC.out]; exact he)))
        obtain ⟨x0, x1, x2, x3, xf⟩ := four_cells X6.out
        obtain ⟨y0, y1, y2, y3, yf⟩ := four_cells Y6.out
        go_wp2_with fail
        have HB9 := (((B6.setCell (p := ⟨w.heap.size, 0, none⟩) (Nat.le_refl _) (Value.string ⟨#[]⟩)).setCell (p := ⟨w.heap.size, 1, none⟩) (Nat.le_refl _) (Value.string ⟨#[]⟩)).setCell (p := ⟨w.heap.size, 2, none⟩) (Nat.le_refl _) (Value.int .i64 0)).setCell (p := ⟨w.heap.size, 3, none⟩) (Nat.le_refl _) (Value.string ⟨#[]⟩)
        exact bodyPost_ret (v := .tuple #[.agg #[Value.string ⟨#[]⟩, Value.string ⟨#[]⟩, Value.int .i64 0, Value.string ⟨#[]⟩], .bool false]) (by simp [results, Tryd.results19, go_sem, y0, y1, y2, y3]) rfl ⟨by rw [HG.out.1, HG.out.2]; first | rfl | rw [HC.out]; rfl, HB9⟩
      · rcases hn : (s.toList == []) with _ | _
        · have HG := hide (Pu.spec_good (s := s) (by rw [HC.out]; exact he) hn)
          obtain ⟨x0, x1, x2, x3, xf⟩ := four_cells X6.out
          obtain ⟨y0, y1, y2, y3, yf⟩ := four_cells Y6.out
          go_wp2_with fail
          have HB9 := (((B6.setCell (p := ⟨w.heap.size, 0, none⟩) (Nat.le_refl _) (Value.string m)).setCell (p := ⟨w.heap.size, 1, none⟩) (Nat.le_refl _) (Value.string J)).setCell (p := ⟨w.heap.size, 2, none⟩) (Nat.le_refl _) (Value.int .i64 V)).setCell (p := ⟨w.heap.size, 3, none⟩) (Nat.le_refl _) (Value.string ⟨#[]⟩)
          exact bodyPost_ret (v := .tuple #[.agg #[Value.string m, Value.string J, Value.int .i64 V, Value.string ⟨#[]⟩], .bool true]) (by simp [results, Tryd.results19, go_sem, y0, y1, y2, y3]) rfl ⟨by rw [HG.out.1, HG.out.2]; first | rfl | rw [HC.out]; rfl, HB9⟩
        · have HG := hide (Pu.spec_bad (s := s) (.inr hn))
          obtain ⟨x0, x1, x2, x3, xf⟩ := four_cells X6.out
          obtain ⟨y0, y1, y2, y3, yf⟩ := four_cells Y6.out
          go_wp2_with fail
          have HB9 := (((B6.setCell (p := ⟨w.heap.size, 0, none⟩) (Nat.le_refl _) (Value.string ⟨#[]⟩)).setCell (p := ⟨w.heap.size, 1, none⟩) (Nat.le_refl _) (Value.string ⟨#[]⟩)).setCell (p := ⟨w.heap.size, 2, none⟩) (Nat.le_refl _) (Value.int .i64 0)).setCell (p := ⟨w.heap.size, 3, none⟩) (Nat.le_refl _) (Value.string ⟨#[]⟩)
          exact bodyPost_ret (v := .tuple #[.agg #[Value.string ⟨#[]⟩, Value.string ⟨#[]⟩, Value.int .i64 0, Value.string ⟨#[]⟩], .bool false]) (by simp [results, Tryd.results19, go_sem, y0, y1, y2, y3]) rfl ⟨by rw [HG.out.1, HG.out.2]; first | rfl | rw [HC.out]; rfl, HB9⟩
    · have hmn : (if (1 : Int) < (N : Int) - 1 then (1 : Int) else (N : Int) - 1) = 1 := by
        by_cases h : (1 : Int) < (N : Int) - 1
        · rw [if_pos h]
        · rw [if_neg h]; omega
      have hrd := rd_sub (a := 1) (b := N - 1) R3.out HN.out.symm (by omega) (by omega)
      have HRA := hide (show RdStr w3 (.slice (some ⟨g, o + 1, none⟩) (N - 1 - 1) (k1 - 1)) (((m :: rest).take (N - min 1 (N - 1))).drop 1) by rw [show N - min 1 (N - 1) = N - 1 by omega]; exact hrd)
      clear hrd hjl
      go_wp2_with (first
        | (go_at_call 38; refine (l1Min_c _ _ _).mono ?_; rintro e w' ⟨rfl, rfl⟩; rw [hmn])
        | (go_at_call 37; refine (joinSp_c _ _ _ HRA.out HJL.out (by omega)).mono ?_; rintro e w4 ⟨rfl, b4⟩; rw [HJ.out]; have B4 := ((below_then B3 b4).setCell (p := ⟨w1.heap.size, 1, none⟩) (by show w.heap.size ≤ w1.heap.size; omega) (Value.string J)).setCell (p := ⟨w1.heap.size, 2, none⟩) (by show w.heap.size ≤ w1.heap.size; omega) (Value.int .i64 V); have X4' := hide (row_b b4 X3.out); have X5' := hide (row4_set (u := Value.string J) X4'.out).1; have X4 := hide (row4_set (u := Value.int .i64 V) X5'.out).2.1; have Y4 := hide (row_far (g' := w1.heap.size) (j := 2) (u := Value.int .i64 V) (row_far (g' := w1.heap.size) (j := 1) (u := Value.string J) (row_b b4 Y3.out) (by omega)) (by omega)); obtain ⟨_, _, _, _, _⟩ := four_cells X4'.out))
      have hwf : CallD.wf (⟨m, J, V, ⟨#[]⟩⟩ : Pu.CallD) := ⟨by show m.size ≤ maxLen; unfold maxLen; omega, by show (J : ByteArray).size ≤ maxLen; unfold maxLen; first | omega | decide, WalkArith.wf_i64 (by show -9223372036854775808 ≤ (V : Int) ∧ (V : Int) ≤ 9223372036854775807; first | omega | decide), by show (⟨#[]⟩ : ByteArray).size ≤ maxLen; unfold maxLen; first | omega | decide⟩
      have HWF := hide hwf
      have htx : ((⟨m, J, V, ⟨#[]⟩⟩ : Pu.CallD)).text.size ≤ 1048576 := by show (⟨#[]⟩ : ByteArray).size ≤ 1048576; first | omega | decide
      have HTX := hide htx
      clear hwf htx
      refine (sFormatCall_c (⟨m, J, V, ⟨#[]⟩⟩ : Pu.CallD) _ HWF.out HTX.out).mono ?_; rintro e w6 ⟨rfl, b6⟩
      have B6 := below_then B4 b6
      have X6 := hide (row_b b6 X4.out)
      have Y6 := hide (row_b b6 Y4.out)
      have hne6 : ¬ w1.heap.size = w.heap.size := by omega
      clear b6
      rcases he : ((Pu.callT (⟨m, J, V, ⟨#[]⟩⟩ : Pu.CallD)).toList == s.toList) with _ | _
      · have HG := hide (Pu.spec_bad (s := s) (.inl (by rw [HC.out]; exact he)))
        obtain ⟨x0, x1, x2, x3, xf⟩ := four_cells X6.out
        obtain ⟨y0, y1, y2, y3, yf⟩ := four_cells Y6.out
        go_wp2_with fail
        have HB9 := (((B6.setCell (p := ⟨w.heap.size, 0, none⟩) (Nat.le_refl _) (Value.string ⟨#[]⟩)).setCell (p := ⟨w.heap.size, 1, none⟩) (Nat.le_refl _) (Value.string ⟨#[]⟩)).setCell (p := ⟨w.heap.size, 2, none⟩) (Nat.le_refl _) (Value.int .i64 0)).setCell (p := ⟨w.heap.size, 3, none⟩) (Nat.le_refl _) (Value.string ⟨#[]⟩)
        exact bodyPost_ret (v := .tuple #[.agg #[Value.string ⟨#[]⟩, Value.string ⟨#[]⟩, Value.int .i64 0, Value.string ⟨#[]⟩], .bool false]) (by simp [results, Tryd.results19, go_sem, y0, y1, y2, y3]) rfl ⟨by rw [HG.out.1, HG.out.2]; first | rfl | rw [HC.out]; rfl, HB9⟩
      · rcases hn : (s.toList == []) with _ | _
        · have HG := hide (Pu.spec_good (s := s) (by rw [HC.out]; exact he) hn)
          obtain ⟨x0, x1, x2, x3, xf⟩ := four_cells X6.out
          obtain ⟨y0, y1, y2, y3, yf⟩ := four_cells Y6.out
          go_wp2_with fail
          have HB9 := (((B6.setCell (p := ⟨w.heap.size, 0, none⟩) (Nat.le_refl _) (Value.string m)).setCell (p := ⟨w.heap.size, 1, none⟩) (Nat.le_refl _) (Value.string J)).setCell (p := ⟨w.heap.size, 2, none⟩) (Nat.le_refl _) (Value.int .i64 V)).setCell (p := ⟨w.heap.size, 3, none⟩) (Nat.le_refl _) (Value.string ⟨#[]⟩)
          exact bodyPost_ret (v := .tuple #[.agg #[Value.string m, Value.string J, Value.int .i64 V, Value.string ⟨#[]⟩], .bool true]) (by simp [results, Tryd.results19, go_sem, y0, y1, y2, y3]) rfl ⟨by rw [HG.out.1, HG.out.2]; first | rfl | rw [HC.out]; rfl, HB9⟩
        · have HG := hide (Pu.spec_bad (s := s) (.inr hn))
          obtain ⟨x0, x1, x2, x3, xf⟩ := four_cells X6.out
          obtain ⟨y0, y1, y2, y3, yf⟩ := four_cells Y6.out
          go_wp2_with fail
          have HB9 := (((B6.setCell (p := ⟨w.heap.size, 0, none⟩) (Nat.le_refl _) (Value.string ⟨#[]⟩)).setCell (p := ⟨w.heap.size, 1, none⟩) (Nat.le_refl _) (Value.string ⟨#[]⟩)).setCell (p := ⟨w.heap.size, 2, none⟩) (Nat.le_refl _) (Value.int .i64 0)).setCell (p := ⟨w.heap.size, 3, none⟩) (Nat.le_refl _) (Value.string ⟨#[]⟩)
          exact bodyPost_ret (v := .tuple #[.agg #[Value.string ⟨#[]⟩, Value.string ⟨#[]⟩, Value.int .i64 0, Value.string ⟨#[]⟩], .bool false]) (by simp [results, Tryd.results19, go_sem, y0, y1, y2, y3]) rfl ⟨by rw [HG.out.1, HG.out.2]; first | rfl | rw [HC.out]; rfl, HB9⟩
  · have HC : Hid (Pu.candS s = ⟨m, ⟨#[]⟩, V, ⟨#[]⟩⟩) := by rw [Hid, HCZ.out, ← HV.out]; rfl
    have B4 := B3.setCell (p := ⟨w1.heap.size, 2, none⟩) (by show w.heap.size ≤ w1.heap.size; omega) (Value.int .i64 V)
    have X4 := hide (row4_set (u := Value.int .i64 V) X3.out).2.1
    have Y4 := hide (row_far (g' := w1.heap.size) (j := 2) (u := Value.int .i64 V) Y3.out (by omega))
    go_wp2_with fail
    have hwf : CallD.wf (⟨m, ⟨#[]⟩, V, ⟨#[]⟩⟩ : Pu.CallD) := ⟨by show m.size ≤ maxLen; unfold maxLen; omega, by show (⟨#[]⟩ : ByteArray).size ≤ maxLen; unfold maxLen; first | omega | decide, WalkArith.wf_i64 (by show -9223372036854775808 ≤ (V : Int) ∧ (V : Int) ≤ 9223372036854775807; first | omega | decide), by show (⟨#[]⟩ : ByteArray).size ≤ maxLen; unfold maxLen; first | omega | decide⟩
    have HWF := hide hwf
    have htx : ((⟨m, ⟨#[]⟩, V, ⟨#[]⟩⟩ : Pu.CallD)).text.size ≤ 1048576 := by show (⟨#[]⟩ : ByteArray).size ≤ 1048576; first | omega | decide
    have HTX := hide htx
    clear hwf htx
    refine (sFormatCall_c (⟨m, ⟨#[]⟩, V, ⟨#[]⟩⟩ : Pu.CallD) _ HWF.out HTX.out).mono ?_; rintro e w6 ⟨rfl, b6⟩
    have B6 := below_then B4 b6
    have X6 := hide (row_b b6 X4.out)
    have Y6 := hide (row_b b6 Y4.out)
    have hne6 : ¬ w1.heap.size = w.heap.size := by omega
    clear b6
    rcases he : ((Pu.callT (⟨m, ⟨#[]⟩, V, ⟨#[]⟩⟩ : Pu.CallD)).toList == s.toList) with _ | _
    · have HG := hide (Pu.spec_bad (s := s) (.inl (by rw [HC.out]; exact he)))
      obtain ⟨x0, x1, x2, x3, xf⟩ := four_cells X6.out
      obtain ⟨y0, y1, y2, y3, yf⟩ := four_cells Y6.out
      go_wp2_with fail
      have HB9 := (((B6.setCell (p := ⟨w.heap.size, 0, none⟩) (Nat.le_refl _) (Value.string ⟨#[]⟩)).setCell (p := ⟨w.heap.size, 1, none⟩) (Nat.le_refl _) (Value.string ⟨#[]⟩)).setCell (p := ⟨w.heap.size, 2, none⟩) (Nat.le_refl _) (Value.int .i64 0)).setCell (p := ⟨w.heap.size, 3, none⟩) (Nat.le_refl _) (Value.string ⟨#[]⟩)
      exact bodyPost_ret (v := .tuple #[.agg #[Value.string ⟨#[]⟩, Value.string ⟨#[]⟩, Value.int .i64 0, Value.string ⟨#[]⟩], .bool false]) (by simp [results, Tryd.results19, go_sem, y0, y1, y2, y3]) rfl ⟨by rw [HG.out.1, HG.out.2]; first | rfl | rw [HC.out]; rfl, HB9⟩
    · rcases hn : (s.toList == []) with _ | _
      · have HG := hide (Pu.spec_good (s := s) (by rw [HC.out]; exact he) hn)
        obtain ⟨x0, x1, x2, x3, xf⟩ := four_cells X6.out
        obtain ⟨y0, y1, y2, y3, yf⟩ := four_cells Y6.out
        go_wp2_with fail
        have HB9 := (((B6.setCell (p := ⟨w.heap.size, 0, none⟩) (Nat.le_refl _) (Value.string m)).setCell (p := ⟨w.heap.size, 1, none⟩) (Nat.le_refl _) (Value.string ⟨#[]⟩)).setCell (p := ⟨w.heap.size, 2, none⟩) (Nat.le_refl _) (Value.int .i64 V)).setCell (p := ⟨w.heap.size, 3, none⟩) (Nat.le_refl _) (Value.string ⟨#[]⟩)
        exact bodyPost_ret (v := .tuple #[.agg #[Value.string m, Value.string ⟨#[]⟩, Value.int .i64 V, Value.string ⟨#[]⟩], .bool true]) (by simp [results, Tryd.results19, go_sem, y0, y1, y2, y3]) rfl ⟨by rw [HG.out.1, HG.out.2]; first | rfl | rw [HC.out]; rfl, HB9⟩
      · have HG := hide (Pu.spec_bad (s := s) (.inr hn))
        obtain ⟨x0, x1, x2, x3, xf⟩ := four_cells X6.out
        obtain ⟨y0, y1, y2, y3, yf⟩ := four_cells Y6.out
        go_wp2_with fail
        have HB9 := (((B6.setCell (p := ⟨w.heap.size, 0, none⟩) (Nat.le_refl _) (Value.string ⟨#[]⟩)).setCell (p := ⟨w.heap.size, 1, none⟩) (Nat.le_refl _) (Value.string ⟨#[]⟩)).setCell (p := ⟨w.heap.size, 2, none⟩) (Nat.le_refl _) (Value.int .i64 0)).setCell (p := ⟨w.heap.size, 3, none⟩) (Nat.le_refl _) (Value.string ⟨#[]⟩)
        exact bodyPost_ret (v := .tuple #[.agg #[Value.string ⟨#[]⟩, Value.string ⟨#[]⟩, Value.int .i64 0, Value.string ⟨#[]⟩], .bool false]) (by simp [results, Tryd.results19, go_sem, y0, y1, y2, y3]) rfl ⟨by rw [HG.out.1, HG.out.2]; first | rfl | rw [HC.out]; rfl, HB9⟩
  · obtain ⟨J, HJ⟩ : ∃ J, Hid (Pu.joinB Pu.spB rest = J) := ⟨_, rfl⟩
    rw [HJ.out] at hjr
    have HC : Hid (Pu.candS s = ⟨m, ⟨#[]⟩, 0, J⟩) := by rw [Hid, HCZ.out, ← HJ.out]; rfl
    have hrd := rd_sub (a := 1) (b := N) R3.out HN.out.symm (by omega) (by omega)
    rw [List.take_of_length_le (by rw [HN.out]; exact Nat.le_refl _)] at hrd
    have HRA := hide (show RdStr w3 (.slice (some ⟨g, o + 1, none⟩) (N - 1) (k1 - 1)) rest from hrd)
    have HRB : Hid (k1 ≤ 1 → RdStr w3 (.slice (some ⟨g, o, none⟩) (N - 1) 0) rest) := fun h => by
      have h9 := HNr.out
      have h8 : rest = [] := List.eq_nil_of_length_eq_zero (by omega)
      rw [h8, show N - 1 = 0 by omega]
      exact ⟨_, 0, rfl, Nat.le_refl _, Nat.zero_le _, fun h => absurd h (by simp)⟩
    have hrl : rest.length ≤ 1048576 := by have h9 := HNr.out; omega
    have hrt : Pu.tot rest ≤ 1048576 := by simp only [Pu.tot] at htot; omega
    have HRL := hide hrl
    clear hrd hrl
    by_cases hk1 : k1 ≤ 1
    · go_wp2_with (go_at_call 37; refine (joinSp_c _ rest _ (by first | exact HRA.out | exact HRB.out (by omega)) HRL.out hrt).mono ?_; rintro e w4 ⟨rfl, b4⟩; rw [HJ.out]; have B4 := (below_then B3 b4).setCell (p := ⟨w1.heap.size, 3, none⟩) (by show w.heap.size ≤ w1.heap.size; omega) (Value.string J); have X4' := hide (row_b b4 X3.out); have X4 := hide (row4_set (u := Value.string J) X4'.out).2.2; have Y4 := hide (row_far (g' := w1.heap.size) (j := 3) (u := Value.string J) (row_b b4 Y3.out) (by omega)); obtain ⟨_, _, _, _, _⟩ := four_cells X4'.out)
      have hwf : CallD.wf (⟨m, ⟨#[]⟩, 0, J⟩ : Pu.CallD) := ⟨by show m.size ≤ maxLen; unfold maxLen; omega, by show (⟨#[]⟩ : ByteArray).size ≤ maxLen; unfold maxLen; first | omega | decide, WalkArith.wf_i64 (by show -9223372036854775808 ≤ (0 : Int) ∧ (0 : Int) ≤ 9223372036854775807; first | omega | decide), by show (J : ByteArray).size ≤ maxLen; unfold maxLen; first | omega | decide⟩
      have HWF := hide hwf
      have htx : ((⟨m, ⟨#[]⟩, 0, J⟩ : Pu.CallD)).text.size ≤ 1048576 := by show (J : ByteArray).size ≤ 1048576; first | omega | decide
      have HTX := hide htx
      clear hwf htx
      refine (sFormatCall_c (⟨m, ⟨#[]⟩, 0, J⟩ : Pu.CallD) _ HWF.out HTX.out).mono ?_; rintro e w6 ⟨rfl, b6⟩
      have B6 := below_then B4 b6
      have X6 := hide (row_b b6 X4.out)
      have Y6 := hide (row_b b6 Y4.out)
      have hne6 : ¬ w1.heap.size = w.heap.size := by omega
      clear b6
      rcases he : ((Pu.callT (⟨m, ⟨#[]⟩, 0, J⟩ : Pu.CallD)).toList == s.toList) with _ | _
      · have HG := hide (Pu.spec_bad (s := s) (.inl (by rw [HC.out]; exact he)))
        obtain ⟨x0, x1, x2, x3, xf⟩ := four_cells X6.out
        obtain ⟨y0, y1, y2, y3, yf⟩ := four_cells Y6.out
        go_wp2_with fail
        have HB9 := (((B6.setCell (p := ⟨w.heap.size, 0, none⟩) (Nat.le_refl _) (Value.string ⟨#[]⟩)).setCell (p := ⟨w.heap.size, 1, none⟩) (Nat.le_refl _) (Value.string ⟨#[]⟩)).setCell (p := ⟨w.heap.size, 2, none⟩) (Nat.le_refl _) (Value.int .i64 0)).setCell (p := ⟨w.heap.size, 3, none⟩) (Nat.le_refl _) (Value.string ⟨#[]⟩)
        exact bodyPost_ret (v := .tuple #[.agg #[Value.string ⟨#[]⟩, Value.string ⟨#[]⟩, Value.int .i64 0, Value.string ⟨#[]⟩], .bool false]) (by simp [results, Tryd.results19, go_sem, y0, y1, y2, y3]) rfl ⟨by rw [HG.out.1, HG.out.2]; first | rfl | rw [HC.out]; rfl, HB9⟩
      · rcases hn : (s.toList == []) with _ | _
        · have HG := hide (Pu.spec_good (s := s) (by rw [HC.out]; exact he) hn)
          obtain ⟨x0, x1, x2, x3, xf⟩ := four_cells X6.out
          obtain ⟨y0, y1, y2, y3, yf⟩ := four_cells Y6.out
          go_wp2_with fail
          have HB9 := (((B6.setCell (p := ⟨w.heap.size, 0, none⟩) (Nat.le_refl _) (Value.string m)).setCell (p := ⟨w.heap.size, 1, none⟩) (Nat.le_refl _) (Value.string ⟨#[]⟩)).setCell (p := ⟨w.heap.size, 2, none⟩) (Nat.le_refl _) (Value.int .i64 0)).setCell (p := ⟨w.heap.size, 3, none⟩) (Nat.le_refl _) (Value.string J)
          exact bodyPost_ret (v := .tuple #[.agg #[Value.string m, Value.string ⟨#[]⟩, Value.int .i64 0, Value.string J], .bool true]) (by simp [results, Tryd.results19, go_sem, y0, y1, y2, y3]) rfl ⟨by rw [HG.out.1, HG.out.2]; first | rfl | rw [HC.out]; rfl, HB9⟩
        · have HG := hide (Pu.spec_bad (s := s) (.inr hn))
          obtain ⟨x0, x1, x2, x3, xf⟩ := four_cells X6.out
          obtain ⟨y0, y1, y2, y3, yf⟩ := four_cells Y6.out
          go_wp2_with fail
          have HB9 := (((B6.setCell (p := ⟨w.heap.size, 0, none⟩) (Nat.le_refl _) (Value.string ⟨#[]⟩)).setCell (p := ⟨w.heap.size, 1, none⟩) (Nat.le_refl _) (Value.string ⟨#[]⟩)).setCell (p := ⟨w.heap.size, 2, none⟩) (Nat.le_refl _) (Value.int .i64 0)).setCell (p := ⟨w.heap.size, 3, none⟩) (Nat.le_refl _) (Value.string ⟨#[]⟩)
          exact bodyPost_ret (v := .tuple #[.agg #[Value.string ⟨#[]⟩, Value.string ⟨#[]⟩, Value.int .i64 0, Value.string ⟨#[]⟩], .bool false]) (by simp [results, Tryd.results19, go_sem, y0, y1, y2, y3]) rfl ⟨by rw [HG.out.1, HG.out.2]; first | rfl | rw [HC.out]; rfl, HB9⟩
    · go_wp2_with (go_at_call 37; refine (joinSp_c _ rest _ (by first | exact HRA.out | exact HRB.out (by omega)) HRL.out hrt).mono ?_; rintro e w4 ⟨rfl, b4⟩; rw [HJ.out]; have B4 := (below_then B3 b4).setCell (p := ⟨w1.heap.size, 3, none⟩) (by show w.heap.size ≤ w1.heap.size; omega) (Value.string J); have X4' := hide (row_b b4 X3.out); have X4 := hide (row4_set (u := Value.string J) X4'.out).2.2; have Y4 := hide (row_far (g' := w1.heap.size) (j := 3) (u := Value.string J) (row_b b4 Y3.out) (by omega)); obtain ⟨_, _, _, _, _⟩ := four_cells X4'.out)
      have hwf : CallD.wf (⟨m, ⟨#[]⟩, 0, J⟩ : Pu.CallD) := ⟨by show m.size ≤ maxLen; unfold maxLen; omega, by show (⟨#[]⟩ : ByteArray).size ≤ maxLen; unfold maxLen; first | omega | decide, WalkArith.wf_i64 (by show -9223372036854775808 ≤ (0 : Int) ∧ (0 : Int) ≤ 9223372036854775807; first | omega | decide), by show (J : ByteArray).size ≤ maxLen; unfold maxLen; first | omega | decide⟩
      have HWF := hide hwf
      have htx : ((⟨m, ⟨#[]⟩, 0, J⟩ : Pu.CallD)).text.size ≤ 1048576 := by show (J : ByteArray).size ≤ 1048576; first | omega | decide
      have HTX := hide htx
      clear hwf htx
      refine (sFormatCall_c (⟨m, ⟨#[]⟩, 0, J⟩ : Pu.CallD) _ HWF.out HTX.out).mono ?_; rintro e w6 ⟨rfl, b6⟩
      have B6 := below_then B4 b6
      have X6 := hide (row_b b6 X4.out)
      have Y6 := hide (row_b b6 Y4.out)
      have hne6 : ¬ w1.heap.size = w.heap.size := by omega
      clear b6
      rcases he : ((Pu.callT (⟨m, ⟨#[]⟩, 0, J⟩ : Pu.CallD)).toList == s.toList) with _ | _
      · have HG := hide (Pu.spec_bad (s := s) (.inl (by rw [HC.out]; exact he)))
        obtain ⟨x0, x1, x2, x3, xf⟩ := four_cells X6.out
        obtain ⟨y0, y1, y2, y3, yf⟩ := four_cells Y6.out
        go_wp2_with fail
        have HB9 := (((B6.setCell (p := ⟨w.heap.size, 0, none⟩) (Nat.le_refl _) (Value.string ⟨#[]⟩)).setCell (p := ⟨w.heap.size, 1, none⟩) (Nat.le_refl _) (Value.string ⟨#[]⟩)).setCell (p := ⟨w.heap.size, 2, none⟩) (Nat.le_refl _) (Value.int .i64 0)).setCell (p := ⟨w.heap.size, 3, none⟩) (Nat.le_refl _) (Value.string ⟨#[]⟩)
        exact bodyPost_ret (v := .tuple #[.agg #[Value.string ⟨#[]⟩, Value.string ⟨#[]⟩, Value.int .i64 0, Value.string ⟨#[]⟩], .bool false]) (by simp [results, Tryd.results19, go_sem, y0, y1, y2, y3]) rfl ⟨by rw [HG.out.1, HG.out.2]; first | rfl | rw [HC.out]; rfl, HB9⟩
      · rcases hn : (s.toList == []) with _ | _
        · have HG := hide (Pu.spec_good (s := s) (by rw [HC.out]; exact he) hn)
          obtain ⟨x0, x1, x2, x3, xf⟩ := four_cells X6.out
          obtain ⟨y0, y1, y2, y3, yf⟩ := four_cells Y6.out
          go_wp2_with fail
          have HB9 := (((B6.setCell (p := ⟨w.heap.size, 0, none⟩) (Nat.le_refl _) (Value.string m)).setCell (p := ⟨w.heap.size, 1, none⟩) (Nat.le_refl _) (Value.string ⟨#[]⟩)).setCell (p := ⟨w.heap.size, 2, none⟩) (Nat.le_refl _) (Value.int .i64 0)).setCell (p := ⟨w.heap.size, 3, none⟩) (Nat.le_refl _) (Value.string J)
          exact bodyPost_ret (v := .tuple #[.agg #[Value.string m, Value.string ⟨#[]⟩, Value.int .i64 0, Value.string J], .bool true]) (by simp [results, Tryd.results19, go_sem, y0, y1, y2, y3]) rfl ⟨by rw [HG.out.1, HG.out.2]; first | rfl | rw [HC.out]; rfl, HB9⟩
        · have HG := hide (Pu.spec_bad (s := s) (.inr hn))
          obtain ⟨x0, x1, x2, x3, xf⟩ := four_cells X6.out
          obtain ⟨y0, y1, y2, y3, yf⟩ := four_cells Y6.out
          go_wp2_with fail
          have HB9 := (((B6.setCell (p := ⟨w.heap.size, 0, none⟩) (Nat.le_refl _) (Value.string ⟨#[]⟩)).setCell (p := ⟨w.heap.size, 1, none⟩) (Nat.le_refl _) (Value.string ⟨#[]⟩)).setCell (p := ⟨w.heap.size, 2, none⟩) (Nat.le_refl _) (Value.int .i64 0)).setCell (p := ⟨w.heap.size, 3, none⟩) (Nat.le_refl _) (Value.string ⟨#[]⟩)
          exact bodyPost_ret (v := .tuple #[.agg #[Value.string ⟨#[]⟩, Value.string ⟨#[]⟩, Value.int .i64 0, Value.string ⟨#[]⟩], .bool false]) (by simp [results, Tryd.results19, go_sem, y0, y1, y2, y3]) rfl ⟨by rw [HG.out.1, HG.out.2]; first | rfl | rw [HC.out]; rfl, HB9⟩
  · have HC : Hid (Pu.candS s = ⟨m, ⟨#[]⟩, 0, ⟨#[]⟩⟩) := HCZ.out
    go_wp2_with fail
    have hwf : CallD.wf (⟨m, ⟨#[]⟩, 0, ⟨#[]⟩⟩ : Pu.CallD) := ⟨by show m.size ≤ maxLen; unfold maxLen; omega, by show (⟨#[]⟩ : ByteArray).size ≤ maxLen; unfold maxLen; first | omega | decide, WalkArith.wf_i64 (by show -9223372036854775808 ≤ (0 : Int) ∧ (0 : Int) ≤ 9223372036854775807; first | omega | decide), by show (⟨#[]⟩ : ByteArray).size ≤ maxLen; unfold maxLen; first | omega | decide⟩
    have HWF := hide hwf
    have htx : ((⟨m, ⟨#[]⟩, 0, ⟨#[]⟩⟩ : Pu.CallD)).text.size ≤ 1048576 := by show (⟨#[]⟩ : ByteArray).size ≤ 1048576; first | omega | decide
    have HTX := hide htx
    clear hwf htx
    refine (sFormatCall_c (⟨m, ⟨#[]⟩, 0, ⟨#[]⟩⟩ : Pu.CallD) _ HWF.out HTX.out).mono ?_; rintro e w6 ⟨rfl, b6⟩
    have B6 := below_then B3 b6
    have X6 := hide (row_b b6 X3.out)
    have Y6 := hide (row_b b6 Y3.out)
    have hne6 : ¬ w1.heap.size = w.heap.size := by omega
    clear b6
    rcases he : ((Pu.callT (⟨m, ⟨#[]⟩, 0, ⟨#[]⟩⟩ : Pu.CallD)).toList == s.toList) with _ | _
    · have HG := hide (Pu.spec_bad (s := s) (.inl (by rw [HC.out]; exact he)))
      obtain ⟨x0, x1, x2, x3, xf⟩ := four_cells X6.out
      obtain ⟨y0, y1, y2, y3, yf⟩ := four_cells Y6.out
      go_wp2_with fail
      have HB9 := (((B6.setCell (p := ⟨w.heap.size, 0, none⟩) (Nat.le_refl _) (Value.string ⟨#[]⟩)).setCell (p := ⟨w.heap.size, 1, none⟩) (Nat.le_refl _) (Value.string ⟨#[]⟩)).setCell (p := ⟨w.heap.size, 2, none⟩) (Nat.le_refl _) (Value.int .i64 0)).setCell (p := ⟨w.heap.size, 3, none⟩) (Nat.le_refl _) (Value.string ⟨#[]⟩)
      exact bodyPost_ret (v := .tuple #[.agg #[Value.string ⟨#[]⟩, Value.string ⟨#[]⟩, Value.int .i64 0, Value.string ⟨#[]⟩], .bool false]) (by simp [results, Tryd.results19, go_sem, y0, y1, y2, y3]) rfl ⟨by rw [HG.out.1, HG.out.2]; first | rfl | rw [HC.out]; rfl, HB9⟩
    · rcases hn : (s.toList == []) with _ | _
      · have HG := hide (Pu.spec_good (s := s) (by rw [HC.out]; exact he) hn)
        obtain ⟨x0, x1, x2, x3, xf⟩ := four_cells X6.out
        obtain ⟨y0, y1, y2, y3, yf⟩ := four_cells Y6.out
        go_wp2_with fail
        have HB9 := (((B6.setCell (p := ⟨w.heap.size, 0, none⟩) (Nat.le_refl _) (Value.string m)).setCell (p := ⟨w.heap.size, 1, none⟩) (Nat.le_refl _) (Value.string ⟨#[]⟩)).setCell (p := ⟨w.heap.size, 2, none⟩) (Nat.le_refl _) (Value.int .i64 0)).setCell (p := ⟨w.heap.size, 3, none⟩) (Nat.le_refl _) (Value.string ⟨#[]⟩)
        exact bodyPost_ret (v := .tuple #[.agg #[Value.string m, Value.string ⟨#[]⟩, Value.int .i64 0, Value.string ⟨#[]⟩], .bool true]) (by simp [results, Tryd.results19, go_sem, y0, y1, y2, y3]) rfl ⟨by rw [HG.out.1, HG.out.2]; first | rfl | rw [HC.out]; rfl, HB9⟩
      · have HG := hide (Pu.spec_bad (s := s) (.inr hn))
        obtain ⟨x0, x1, x2, x3, xf⟩ := four_cells X6.out
        obtain ⟨y0, y1, y2, y3, yf⟩ := four_cells Y6.out
        go_wp2_with fail
        have HB9 := (((B6.setCell (p := ⟨w.heap.size, 0, none⟩) (Nat.le_refl _) (Value.string ⟨#[]⟩)).setCell (p := ⟨w.heap.size, 1, none⟩) (Nat.le_refl _) (Value.string ⟨#[]⟩)).setCell (p := ⟨w.heap.size, 2, none⟩) (Nat.le_refl _) (Value.int .i64 0)).setCell (p := ⟨w.heap.size, 3, none⟩) (Nat.le_refl _) (Value.string ⟨#[]⟩)
        exact bodyPost_ret (v := .tuple #[.agg #[Value.string ⟨#[]⟩, Value.string ⟨#[]⟩, Value.int .i64 0, Value.string ⟨#[]⟩], .bool false]) (by simp [results, Tryd.results19, go_sem, y0, y1, y2, y3]) rfl ⟨by rw [HG.out.1, HG.out.2]; first | rfl | rw [HC.out]; rfl, HB9⟩
end Go.Proofs.YtabbgabdbkbjcaaDoor
