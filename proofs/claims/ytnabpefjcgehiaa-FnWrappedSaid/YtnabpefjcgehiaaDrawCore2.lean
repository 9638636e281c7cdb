/- Contracts: drawn cores and calls. Written by wip/tools/drawgen.py. -/
import Derived.Test.YtnabpefjcgehiaaDrawCore
import Derived.Test.YtnabpefjcgehiaaM1
import Derived.Test.YtnabpefjcgehiaaFace
import Derived.Test.YtnabpefjcgehiaaCoreKeep
import Derived.Test.YtnabpefjcgehiaaM0
import Derived.Test.YtnabpefjcgehiaaM2
import Derived.Deep.CutBlock
namespace Go.Proofs.Ytnabpefjcgehiaa
open Go.ChangeShapes Go.WideShapes Go.ChangeAt Go.RowKit
set_option maxRecDepth 100000
set_option linter.unusedVariables false
theorem Cur.setc {w : World} {g : Nat} {l : List UInt8} (hc : Cur w g l) {a : Addr} (ha : g < a.block) (u : Value) : Cur (w.setCell a u) g l := hc.below ((Below.refl (g + 1) w).setCell (by omega) u) (by omega)
/-- what a drawn core is bounded by -/
def DrawnK (p : Pu.CoreD) : Prop := p.kind.size ≤ 6 ∧ (Lit.int .i64 p.count).wf = true ∧ DrawnC p.cells
theorem DrawnK.wf {p : Pu.CoreD} (h : DrawnK p) : CoreD.wf p := ⟨by have := h.1; unfold maxLen; omega, h.2.1⟩
/-- what a drawn call is bounded by -/
def DrawnX (x : Pu.CallD) : Prop := x.method.size ≤ 5 ∧ x.key.size ≤ 9 ∧ (Lit.int .i64 x.value).wf = true ∧ x.text.size ≤ 160
theorem DrawnX.wf {x : Pu.CallD} (h : DrawnX x) : CallD.wf x := ⟨by have := h.1; unfold maxLen; omega, by have := h.2.1; unfold maxLen; omega, h.2.2.1, by have := h.2.2.2; unfold maxLen; omega⟩
theorem DrawnX.text {x : Pu.CallD} (h : DrawnX x) : x.text.size ≤ 1048576 := by have := h.2.2.2; omega
set_option maxHeartbeats 2000000 in
theorem l3Draw_c (g : Nat) (l : List UInt8) (w : World) (hc : Cur w g l) (hgs : g < w.heap.size) :
    Calls Try.prog 52 #[.pointer (some ⟨g, 0, none⟩)] w fun e w' => ∃ (p : Pu.CoreD) (s : Value), e = .returned (coreV p s) ∧ OwnL w' w.heap.size 74 2 cellEn s p.cells ∧ DrawnK p ∧ p.cells.length ≤ 5 ∧ Cur w' g l ∧ w.grownBy w' (some g) := by
  go_enter Try.func52, Try.ntmps52
  obtain ⟨w0, hw0⟩ : ∃ w0, Hid (w.alloc (.cells #[.string ⟨#[]⟩, .bool false, .bool false, .slice none 0 0, .int .i64 0] 28 : Obj) = w0) := ⟨_, rfl⟩
  have hc0 : Cur w0 g l := by rw [← hw0.out]; exact hc.alloc hgs _
  have hg0 : w.grownBy w0 (some g) := by rw [← hw0.out]; exact grown_alloc (grown_refl _ _) _
  have hgs0 : g < w0.heap.size := Nat.lt_of_lt_of_le hgs hg0.size
  have Y0 := hide (show w0.heap[w.heap.size]? = some (.cells #[.string ⟨#[]⟩, .bool false, .bool false, .slice none 0 0, .int .i64 0] 28 (0, 0) : Obj) by rw [← hw0.out]; exact heap_new rfl)
  have hng : some w.heap.size ≠ some g := by intro h; cases h; omega
  go_wp2_with fail
  rw [hw0.out]
  refine (l3Kind_c _ _ _ hc0 hgs0).mono ?_; rintro e w1 ⟨k, rfl, hk, hc1, hg1⟩
  have hgs1 : g < w1.heap.size := Nat.lt_of_lt_of_le hgs0 hg1.size
  have Y1 := hide (row_keep hg1 Y0.out hng)
  go_wp2_with fail
  refine (sKindFace_c k _).mono ?_; rintro e w2 ⟨rfl, b2⟩
  have hc2 := hc1.kept b2 hgs1
  have hg2 := grown_below (grown_trans hg0 hg1) b2
  have Y2 := hide (row_on b2 Y1.out)
  have hgs2 : g < w2.heap.size := Nat.lt_of_lt_of_le hgs1 b2.size
  have hf := Pu.kind_bd k.toList
  generalize Pu.kindF k.toList = f at hf ⊢
  generalize Pu.kindOk k.toList = q
  clear Y0 Y1 hc0 hc1 hg0 hg1 b2 hgs0 hgs1
  go_upto_if 15 with fail
  go_cut [3, 4] from 7 (fun s3 s4 wx => ∃ (k' : ByteArray) (f' : Int), s3 = .string k' ∧ s4 = .int .i64 f' ∧ k'.size ≤ 6 ∧ 0 ≤ f' ∧ f' ≤ 63 ∧ wx = w2)
  case first =>
    rcases q with _ | _
    · go_wp2_with fail
      go_meet
      exact ⟨_, _, rfl, rfl, by decide, by decide, by decide, rfl⟩
    · go_wp2_with fail
      go_meet
      exact ⟨_, _, rfl, rfl, hk, hf.1, hf.2, rfl⟩
  case rest =>
  obtain ⟨k', f', rfl, rfl, hk', hf0, hf1, rfl⟩ := hcut
  clear hk hf
  go_wp2_with fail
  refine (l1Below_c _ _ _ _ hc2 (by omega)).mono ?_; rintro e w3 ⟨n, rfl, hn0, hn1, hc3, hgr3⟩
  have hn5 := hn1 (by omega)
  have hg3 := grown_trans hg2 hgr3
  have hgs3 : g < w3.heap.size := Nat.lt_of_lt_of_le hgs2 hgr3.size
  have Y3 := hide (row_keep hgr3 Y2.out hng)
  have hnw : w.heap.size < w3.heap.size := (Array.getElem?_eq_some_iff.1 Y3.out).1
  obtain ⟨w4, hw4⟩ : ∃ w4, Hid (w3.alloc (.cells #[.string k', .bool false, .bool false, .slice none 0 0, .int .i64 n] 28 : Obj) = w4) := ⟨_, rfl⟩
  have b4 : Below w3.heap.size w3 w4 := by rw [← hw4.out]; exact below_alloc (Below.refl _ _) _
  have X4 := hide (show w4.heap[w3.heap.size]? = some (.cells #[.string k', .bool false, .bool false, .slice none 0 0, .int .i64 n] 28 (0, 0) : Obj) by rw [← hw4.out]; exact heap_new rfl)
  have Y4 := hide (row_on b4 Y3.out)
  have hc4 := hc3.kept b4 hgs3
  have hg4 := grown_below hg3 b4
  have hgs4 : g < w4.heap.size := Nat.lt_of_lt_of_le hgs3 b4.size
  have hbg : some w3.heap.size ≠ some g := by intro h; cases h; omega
  obtain ⟨B, hB⟩ : ∃ B, Hid (w3.heap.size = B) := ⟨_, rfl⟩
  rw [hB.out] at X4 hnw hbg
  have hgB : g < B := by rw [← hB.out]; exact hgs3
  have hnB1 : ¬ B = w.heap.size := by omega
  have hnB2 : ¬ w.heap.size = B := by omega
  clear Y2 Y3 hc2 hc3 hg2 hg3 hgr3 hgs2 b4
  go_wp2_with fail
  refine (l2Has_c f' 0 _ hf0 (by omega) (by omega)).mono ?_; rintro e w4b ⟨rfl, rfl⟩
  rw [hw4.out]
  try simp only [hB.out]
  generalize Pu.hasB f' 0 = r0
  go_upto_if 21 with fail
  go_cut [] from 7 (fun wx => ∃ on br, wx.heap[B]? = some (.cells #[.string k', .bool on, .bool br, .slice none 0 0, .int .i64 n] 28 (0, 0) : Obj) ∧ wx.heap[w.heap.size]? = some (.cells #[.string ⟨#[]⟩, .bool false, .bool false, .slice none 0 0, .int .i64 0] 28 (0, 0) : Obj) ∧ Cur wx g l ∧ w.grownBy wx (some g))
  case first =>
    obtain ⟨_, _, _, _, _, _⟩ := five_cells X4.out
    rcases r0 with _ | _
    · go_wp2_with fail
      go_meet
      exact ⟨false, false, X4.out, Y4.out, hc4, hg4⟩
    · go_wp2_with fail
      refine (l1Below_c _ _ _ _ hc4 (by omega)).mono ?_; rintro e w5 ⟨x, rfl, _, _, hc5, hgr5⟩
      have X5 := hide (row_keep hgr5 X4.out hbg)
      have Y5 := hide (row_keep hgr5 Y4.out hng)
      have hg5 := grown_trans hg4 hgr5
      have hgs5 : g < w5.heap.size := Nat.lt_of_lt_of_le hgs4 hgr5.size
      have hB5 : w.heap.size ≤ B := by omega
      obtain ⟨_, _, _, _, _, _⟩ := five_cells X5.out
      obtain ⟨on, hon⟩ : ∃ on, Hid (decide (0 < x) = on) := ⟨_, rfl⟩
      obtain ⟨w6, hw6⟩ : ∃ w6, Hid (w5.setCell ⟨B, 1, none⟩ (.bool on) = w6) := ⟨_, rfl⟩
      have X6 := hide (show w6.heap[B]? = some (.cells #[.string k', .bool on, .bool false, .slice none 0 0, .int .i64 n] 28 (0, 0) : Obj) by rw [← hw6.out]; exact (row5_set X5.out).1)
      have Y6 := hide (show w6.heap[w.heap.size]? = some (.cells #[.string ⟨#[]⟩, .bool false, .bool false, .slice none 0 0, .int .i64 0] 28 (0, 0) : Obj) by rw [← hw6.out]; exact row_past Y5.out (by omega))
      have hc6 : Cur w6 g l := by rw [← hw6.out]; exact hc5.below ((Below.refl (g + 1) w5).setCell (by show g + 1 ≤ B; omega) _) (by omega)
      have hg6 : w.grownBy w6 (some g) := by rw [← hw6.out]; exact grown_new hg5 hB5 _
      have hgs6 : g < w6.heap.size := Nat.lt_of_lt_of_le hgs hg6.size
      obtain ⟨_, _, _, _, _, _⟩ := five_cells X6.out
      by_cases hx : 0 < x
      · obtain rfl : on = true := by rw [← hon.out]; exact decide_eq_true hx
        go_wp2_with fail
        go_meet
        exact ⟨true, false, by rw [hw6.out]; exact (row5_set X6.out).2.1, by rw [hw6.out]; exact row_past Y6.out (by omega), by rw [hw6.out]; exact hc6.below ((Below.refl (g + 1) w6).setCell (by show g + 1 ≤ B; omega) _) (by omega), by rw [hw6.out]; exact grown_new hg6 hB5 _⟩
      · obtain rfl : on = false := by rw [← hon.out]; exact decide_eq_false hx
        have hdx : decide (0 < x) = false := decide_eq_false hx
        go_wp2_with fail
        rw [hw6.out]
        refine (l1Once_c _ _ _ _ hc6 (by omega)).mono ?_; rintro e w7 ⟨q7, rfl, hc7, hgr7⟩
        have X7 := hide (row_keep hgr7 X6.out hbg)
        have Y7 := hide (row_keep hgr7 Y6.out hng)
        obtain ⟨_, _, _, _, _, _⟩ := five_cells X7.out
        go_wp2_with fail
        go_meet
        exact ⟨false, q7, (row5_set X7.out).2.1, row_past Y7.out (by omega), hc7.below ((Below.refl (g + 1) w7).setCell (by show g + 1 ≤ B; omega) _) (by omega), grown_new (grown_trans hg6 hgr7) hB5 _⟩
  case rest =>
  obtain ⟨on, br, hX, hY, hc5, hg5⟩ := hcut
  have X5 := hide hX
  have Y5 := hide hY
  clear hX hY X4 Y4 hc4 hg4 hgs4
  have hgs5 : g < wc.heap.size := Nat.lt_of_lt_of_le hgs hg5.size
  have hB5 : w.heap.size ≤ B := by omega
  go_wp2_with fail
  refine (l2Has_c f' 1 _ hf0 (by omega) (by omega)).mono ?_; rintro e w5b ⟨rfl, rfl⟩
  generalize Pu.hasB f' 1 = r1
  go_upto_if 35 with fail
  go_cut [] from 7 (fun wx => ∃ A c m, wx.heap[B]? = some (.cells #[.string k', .bool on, .bool br, .slice A m.length c, .int .i64 n] 28 (0, 0) : Obj) ∧ OwnL wx w.heap.size 74 2 cellEn (.slice A m.length c) m ∧ (DrawnC m ∧ m.length ≤ 5) ∧ wx.heap[w.heap.size]? = some (.cells #[.string ⟨#[]⟩, .bool false, .bool false, .slice none 0 0, .int .i64 0] 28 (0, 0) : Obj) ∧ Cur wx g l ∧ w.grownBy wx (some g))
  case first =>
    obtain ⟨_, _, _, _, _, _⟩ := five_cells X5.out
    rcases r1 with _ | _
    · go_wp2_with fail
      go_meet
      exact ⟨none, 0, [], X5.out, OwnL.nil _ _ _ _ _, ⟨DrawnC.nil, by simp⟩, Y5.out, hc5, hg5⟩
    · go_wp2_with fail
      refine (l3Cells_c _ _ _ hc5 hgs5).mono ?_; rintro e w6 ⟨v, m, rfl, o6, ⟨hml, hm⟩, hc6, hgr6⟩
      obtain ⟨A, c, rfl⟩ := OwnL.shape o6
      have X6 := hide (row_keep hgr6 X5.out hbg)
      have Y6 := hide (row_keep hgr6 Y5.out hng)
      have hg6 := grown_trans hg5 hgr6
      have hBc : B < wc.heap.size := (Array.getElem?_eq_some_iff.1 X5.out).1
      have HO := hide o6
      clear o6
      obtain ⟨_, _, _, _, _, _⟩ := five_cells X6.out
      go_wp2_with fail
      go_meet
      exact ⟨A, c, m, (row5_set X6.out).2.2.1, OwnL.set' (HO.out.mono hg5.size) (by intro k hk; have := (OwnL.lt HO.out hk).1; show ¬ B = k; omega) _, ⟨hm, hml⟩, row_past Y6.out (by omega), hc6.below ((Below.refl (g + 1) w6).setCell (by show g + 1 ≤ B; omega) _) (by omega), grown_new hg6 hB5 _⟩
  case rest =>
  obtain ⟨A, c, m, hX, ho, ⟨hm, hml⟩, hY, hc6, hg6⟩ := hcut
  have X6 := hide hX
  have Y6 := hide hY
  have HO6 := hide ho
  clear hX hY ho X5 Y5 hc5 hg5 hgs5
  go_wp2_with fail
  refine (l1Once_c _ _ _ _ hc6 (by omega)).mono ?_; rintro e w7 ⟨q, rfl, hc7, hgr7⟩
  have X7 := hide (row_keep hgr7 X6.out hbg)
  have Y7 := hide (row_keep hgr7 Y6.out hng)
  have HO7 := hide (own_keep HO6.out hgr7 hgs)
  have hg7 := grown_trans hg6 hgr7
  obtain ⟨_, _, _, _, _, _⟩ := five_cells X7.out
  obtain ⟨d0, d1, d2, d3, d4, df⟩ := five_cells Y7.out
  have HFX := hide (fun j hj => And.intro (own_ne HO7.out X7.out (by decide) j hj) (own_ne HO7.out Y7.out (by decide) j hj))
  rcases q with _ | _
  · go_wp2
    refine bodyPost_ret (v := .agg #[.string k', .bool on, .bool br, .slice A m.length c, .int .i64 n]) (by simp [results, Try.results52, go_sem, d0, d1, d2, d3, d4]) rfl ?_
    refine ⟨⟨k', on, br, m, n⟩, .slice A m.length c, rfl, ?_, ⟨hk', WalkArith.wf_i64 (by show _ ∧ _; dsimp only; omega), hm⟩, hml, ?_, ?_⟩
    · iterate 5 refine OwnL.set' ?_ (by intro j hj; have := HFX.out j hj; simp <;> omega) _
      exact HO7.out
    · iterate 5 refine Cur.setc ?_ (by simp <;> omega) _
      exact hc7
    · iterate 5 refine grown_new ?_ (by simp <;> omega) _
      exact hg7
  · go_wp2_with fail
    refine (l1Below_c _ _ _ _ hc7 (by omega)).mono ?_; rintro e w8 ⟨x, rfl, hx0, hx1, hc8, hgr8⟩
    have hx2 := hx1 (by omega)
    have X8 := hide (row_keep hgr8 X7.out hbg)
    have Y8 := hide (row_keep hgr8 Y7.out hng)
    have HO8 := hide (own_keep HO7.out hgr8 hgs)
    have hg8 := grown_trans hg7 hgr8
    obtain ⟨_, _, _, _, _, _⟩ := five_cells X8.out
    obtain ⟨d0, d1, d2, d3, d4, df⟩ := five_cells Y8.out
    have HFX := hide (fun j hj => And.intro (own_ne HO8.out X8.out (by decide) j hj) (own_ne HO8.out Y8.out (by decide) j hj))
    go_wp2
    refine bodyPost_ret (v := .agg #[.string k', .bool on, .bool br, .slice A m.length c, .int .i64 (999 - x)]) (by simp [results, Try.results52, go_sem, d0, d1, d2, d3, d4]) rfl ?_
    refine ⟨⟨k', on, br, m, (999 - x)⟩, .slice A m.length c, rfl, ?_, ⟨hk', WalkArith.wf_i64 (by show _ ∧ _; dsimp only; omega), hm⟩, hml, ?_, ?_⟩
    · iterate 6 refine OwnL.set' ?_ (by intro j hj; have := HFX.out j hj; simp <;> omega) _
      exact HO8.out
    · iterate 6 refine Cur.setc ?_ (by simp <;> omega) _
      exact hc8
    · iterate 6 refine grown_new ?_ (by simp <;> omega) _
      exact hg8
set_option maxHeartbeats 8000000 in
theorem l3Any_c (g : Nat) (l : List UInt8) (w : World) (hc : Cur w g l) (hgs : g < w.heap.size) :
    Calls Try.prog 43 #[.pointer (some ⟨g, 0, none⟩)] w fun e w' => ∃ (p : Pu.CoreD) (s : Value), e = .returned (coreV p s) ∧ OwnL w' w.heap.size 74 2 cellEn s p.cells ∧ DrawnK p ∧ Cur w' g l ∧ w.grownBy w' (some g) := by
  obtain ⟨i0, hi, hz0, hz1, hz2⟩ := info_parts info_cell
  go_enter Try.func43, Try.ntmps43
  obtain ⟨w0, hw0⟩ : ∃ w0, Hid (w.alloc (.cells #[.string ⟨#[]⟩, .bool false, .bool false, .slice none 0 0, .int .i64 0] 28 : Obj) = w0) := ⟨_, rfl⟩
  have hc0 : Cur w0 g l := by rw [← hw0.out]; exact hc.alloc hgs _
  have hg0 : w.grownBy w0 (some g) := by rw [← hw0.out]; exact grown_alloc (grown_refl _ _) _
  have hgs0 : g < w0.heap.size := Nat.lt_of_lt_of_le hgs hg0.size
  have Y0 := hide (show w0.heap[w.heap.size]? = some (.cells #[.string ⟨#[]⟩, .bool false, .bool false, .slice none 0 0, .int .i64 0] 28 (0, 0) : Obj) by rw [← hw0.out]; exact heap_new rfl)
  have hng : some w.heap.size ≠ some g := by intro h; cases h; omega
  go_wp2_with fail
  rw [hw0.out]
  refine (l3Draw_c _ _ _ hc0 hgs0).mono ?_; rintro e w1 ⟨⟨k, on, br, m, n⟩, s, rfl, o1, ⟨hk, hn, hm⟩, hml, hc1, hg1⟩
  obtain ⟨A, c, rfl⟩ := OwnL.shape o1
  unfold coreV
  dsimp only at o1 hk hn hm hml ⊢
  have HO1 := hide (OwnL.mono o1 hg0.size)
  have Y1 := hide (row_keep hg1 Y0.out hng)
  have hg1 := grown_trans hg0 hg1
  have hgs1 : g < w1.heap.size := Nat.lt_of_lt_of_le hgs hg1.size
  have HN := hide hn
  have HM := hide hm
  clear o1 hn hm
  obtain ⟨w2, hww2⟩ : ∃ x, Hid (w1.alloc (.cells #[.string k, .bool on, .bool br, .slice A m.length c, .int .i64 n] 28 : Obj) = x) := ⟨_, rfl⟩
  have bb : Below w1.heap.size w1 w2 := by rw [← hww2.out]; exact below_alloc (Below.refl _ _) _
  have XB := hide (show w2.heap[w1.heap.size]? = some (.cells #[.string k, .bool on, .bool br, .slice A m.length c, .int .i64 n] 28 (0, 0) : Obj) by rw [← hww2.out]; exact heap_new rfl)
  have YB := hide (row_on bb Y1.out)
  have hcB := hc1.kept bb hgs1
  have hgB := grown_below hg1 bb
  have hgsB : g < w2.heap.size := Nat.lt_of_lt_of_le hgs1 bb.size
  have hbg : some w1.heap.size ≠ some g := by intro h; cases h; omega
  have hnw : w.heap.size < w1.heap.size := (Array.getElem?_eq_some_iff.1 Y1.out).1
  have HOB := hide (OwnL.below HO1.out bb (Nat.le_refl _))
  obtain ⟨B, hB⟩ : ∃ B, Hid (w1.heap.size = B) := ⟨_, rfl⟩
  rw [hB.out] at XB hnw hbg
  have hgBB : g < B := by rw [← hB.out]; exact hgs1
  have hnB1 : ¬ B = w.heap.size := by omega
  have hnB2 : ¬ w.heap.size = B := by omega
  clear bb
  clear Y0 Y1 hc0 hg0 hgs0 hc1 hg1 HO1
  obtain ⟨_, _, _, _, _, _⟩ := five_cells XB.out
  go_wp2_with fail
  rw [hww2.out]
  try simp only [hB.out]
  refine (l1Below_c _ _ _ _ hcB (by omega)).mono ?_; rintro e w3 ⟨x, rfl, hx0, hx1, hc3, hgr3⟩
  have hx2 := hx1 (by omega)
  have X3 := hide (row_keep hgr3 XB.out hbg)
  have Y3 := hide (row_keep hgr3 YB.out hng)
  have HO3 := hide (own_keep HOB.out hgr3 hgs)
  have hg3 := grown_trans hgB hgr3
  have hgs3 : g < w3.heap.size := Nat.lt_of_lt_of_le hgs hg3.size
  clear hcB hgB hgsB hgr3 XB YB HOB
  by_cases hx0 : x = 0
  · subst hx0
    obtain ⟨_, _, _, _, _, _⟩ := five_cells X3.out
    go_wp2_with fail
    refine (l1Str_c _ _ _ [⟨#[]⟩, ⟨#[114, 111, 99, 107]⟩, ⟨#[115, 116, 111, 110, 101]⟩, ⟨#[108, 97, 109, 112]⟩, ⟨#[115, 104, 101, 108, 102]⟩] _ (hc3.alloc hgs3 _) (rd_new (e := 9) _ rfl (by decide) (heap_new rfl)) (by decide) (by decide) (by intro a c n h; cases h; show w3.heap.size ≠ g; omega)).mono ?_; rintro e w4 ⟨y, rfl, hy, hcw4, hgw4⟩
    have hzy : y.size ≤ 5 := (show ∀ z ∈ ([⟨#[]⟩, ⟨#[114, 111, 99, 107]⟩, ⟨#[115, 116, 111, 110, 101]⟩, ⟨#[108, 97, 109, 112]⟩, ⟨#[115, 104, 101, 108, 102]⟩] : List ByteArray), z.size ≤ 5 by decide) y hy
    have X4 := hide (row_keep hgw4 (heap_old (o := (.cells #[.string ⟨#[]⟩, .string ⟨#[114, 111, 99, 107]⟩, .string ⟨#[115, 116, 111, 110, 101]⟩, .string ⟨#[108, 97, 109, 112]⟩, .string ⟨#[115, 104, 101, 108, 102]⟩] 9 : Obj)) (Array.getElem?_eq_some_iff.1 X3.out).1 X3.out) hbg)
    have Y4 := hide (row_keep hgw4 (heap_old (o := (.cells #[.string ⟨#[]⟩, .string ⟨#[114, 111, 99, 107]⟩, .string ⟨#[115, 116, 111, 110, 101]⟩, .string ⟨#[108, 97, 109, 112]⟩, .string ⟨#[115, 104, 101, 108, 102]⟩] 9 : Obj)) (Array.getElem?_eq_some_iff.1 Y3.out).1 Y3.out) hng)
    have HO4 := hide (own_keep (OwnL.below HO3.out (below_alloc (Below.refl _ _) (.cells #[.string ⟨#[]⟩, .string ⟨#[114, 111, 99, 107]⟩, .string ⟨#[115, 116, 111, 110, 101]⟩, .string ⟨#[108, 97, 109, 112]⟩, .string ⟨#[115, 104, 101, 108, 102]⟩] 9 : Obj)) (Nat.le_refl _)) hgw4 hgs)
    have hg4 := grown_trans (grown_alloc hg3 _) hgw4
    obtain ⟨_, _, _, _, _, _⟩ := five_cells X4.out
    obtain ⟨d0, d1, d2, d3, d4, df⟩ := five_cells Y4.out
    have HFX := hide (fun j hj => And.intro (own_ne HO4.out X4.out (by decide) j hj) (own_ne HO4.out Y4.out (by decide) j hj))
    go_wp2
    refine bodyPost_ret (v := .agg #[.string y, .bool on, .bool br, .slice A m.length c, .int .i64 n]) (by simp [results, Try.results43, go_sem, d0, d1, d2, d3, d4]) rfl ?_
    refine ⟨⟨y, on, br, m, n⟩, _, rfl, ?_, ⟨(by show y.size ≤ 6; omega), HN.out, HM.out⟩, ?_, ?_⟩
    · iterate 6 refine OwnL.set' ?_ (by intro j hj; have := HFX.out j hj; simp <;> omega) _
      exact HO4.out
    · iterate 6 refine Cur.setc ?_ (by simp <;> omega) _
      exact hcw4
    · iterate 6 refine grown_new ?_ (by simp <;> omega) _
      exact hg4
  by_cases hx1 : x = 1
  · subst hx1
    obtain ⟨_, _, _, _, _, _⟩ := five_cells X3.out
    obtain ⟨_, _, _, _, _, _⟩ := five_cells X3.out
    obtain ⟨d0, d1, d2, d3, d4, df⟩ := five_cells Y3.out
    have HFX := hide (fun j hj => And.intro (own_ne HO3.out X3.out (by decide) j hj) (own_ne HO3.out Y3.out (by decide) j hj))
    go_wp2
    refine bodyPost_ret (v := .agg #[.string k, .bool true, .bool br, .slice A m.length c, .int .i64 n]) (by simp [results, Try.results43, go_sem, d0, d1, d2, d3, d4]) rfl ?_
    refine ⟨⟨k, true, br, m, n⟩, _, rfl, ?_, ⟨hk, HN.out, HM.out⟩, ?_, ?_⟩
    · iterate 6 refine OwnL.set' ?_ (by intro j hj; have := HFX.out j hj; simp <;> omega) _
      exact HO3.out
    · iterate 6 refine Cur.setc ?_ (by simp <;> omega) _
      exact hc3
    · iterate 6 refine grown_new ?_ (by simp <;> omega) _
      exact hg3
  by_cases hx2 : x = 2
  · subst hx2
    obtain ⟨_, _, _, _, _, _⟩ := five_cells X3.out
    obtain ⟨_, _, _, _, _, _⟩ := five_cells X3.out
    obtain ⟨d0, d1, d2, d3, d4, df⟩ := five_cells Y3.out
    have HFX := hide (fun j hj => And.intro (own_ne HO3.out X3.out (by decide) j hj) (own_ne HO3.out Y3.out (by decide) j hj))
    go_wp2
    refine bodyPost_ret (v := .agg #[.string k, .bool on, .bool true, .slice A m.length c, .int .i64 n]) (by simp [results, Try.results43, go_sem, d0, d1, d2, d3, d4]) rfl ?_
    refine ⟨⟨k, on, true, m, n⟩, _, rfl, ?_, ⟨hk, HN.out, HM.out⟩, ?_, ?_⟩
    · iterate 6 refine OwnL.set' ?_ (by intro j hj; have := HFX.out j hj; simp <;> omega) _
      exact HO3.out
    · iterate 6 refine Cur.setc ?_ (by simp <;> omega) _
      exact hc3
    · iterate 6 refine grown_new ?_ (by simp <;> omega) _
      exact hg3
  by_cases hx3 : x = 3
  · subst hx3
    obtain ⟨_, _, _, _, _, _⟩ := five_cells X3.out
    go_wp2_with fail
    have HFB := hide (fun j hj => And.intro (own_ne HO3.out X3.out (by decide) j hj) (own_ne HO3.out Y3.out (by decide) j hj))
    have hB3 : B < w3.heap.size := (Array.getElem?_eq_some_iff.1 X3.out).1
    have hn3 : w.heap.size < w3.heap.size := (Array.getElem?_eq_some_iff.1 Y3.out).1
    have hcD : Cur w3.drew g l := hc3
    refine wp_region_T (F := 11) (fun w' => w'.heap[B]? = some (.cells #[.string k, .bool on, .bool br, .slice A m.length c, .int .i64 n] 28 (0, 0) : Obj)) 10 (by kernel_rfl) rfl (by kernel_rfl) (fun TL inv => ?_)
    have HSz : (fun w' : World => w'.heap[B]? = some (.cells #[.string k, .bool on, .bool br, .slice A m.length c, .int .i64 n] 28 (0, 0) : Obj)) w3.drew := X3.out
    refine wpAnyT_take (i := 0) (v := ?tkV112) TL inv HSz (by (simp only [List.getElem?_toArray, List.getElem?_cons_zero]); exact rfl) (by kernel_rfl) (by kernel_rfl) (by decide) (by exact fun _ _ _ h => h) (by rfl) ?tkY112 (fun inv => ?tkR112)
    case tkY112 => (intro w' hSw; obtain ⟨_, _, _, _, _, _⟩ := five_cells hSw; go_simp <;> with_reducible rfl)
    try simp only [Act.put, List.setIfInBounds_toArray, List.set_cons_zero, List.set_cons_succ]
    refine wpAnyT_take (i := 1) (v := ?tkV115) TL inv HSz (by (simp only [List.getElem?_toArray, List.getElem?_cons_succ, List.getElem?_cons_zero]); exact rfl) (by kernel_rfl) (by kernel_rfl) (by decide) (by exact fun _ _ _ h => h) (by rfl) ?tkY115 (fun inv => ?tkR115)
    case tkY115 => (intro w' hSw; obtain ⟨_, _, _, _, _, _⟩ := five_cells hSw; go_simp <;> with_reducible rfl)
    try simp only [Act.put, List.setIfInBounds_toArray, List.set_cons_zero, List.set_cons_succ]
    refine wpAnyT_take (i := 2) (v := ?tkV118) TL inv HSz (by (simp only [List.getElem?_toArray, List.getElem?_cons_succ, List.getElem?_cons_zero]); exact rfl) (by kernel_rfl) (by kernel_rfl) (by decide) (by exact fun _ _ _ h => h) (by rfl) ?tkY118 (fun inv => ?tkR118)
    case tkY118 => (intro w' hSw; obtain ⟨_, _, _, _, _, _⟩ := five_cells hSw; go_simp <;> with_reducible rfl)
    try simp only [Act.put, List.setIfInBounds_toArray, List.set_cons_zero, List.set_cons_succ]
    refine wpAnyT_take (i := 4) (v := ?tkV121) TL inv HSz (by (simp only [List.getElem?_toArray, List.getElem?_cons_succ, List.getElem?_cons_zero]); exact rfl) (by kernel_rfl) (by kernel_rfl) (by decide) (by exact fun _ _ _ h => h) (by rfl) ?tkY121 (fun inv => ?tkR121)
    case tkY121 => (intro w' hSw; obtain ⟨_, _, _, _, _, _⟩ := five_cells hSw; go_simp <;> with_reducible rfl)
    try simp only [Act.put, List.setIfInBounds_toArray, List.set_cons_zero, List.set_cons_succ]
    refine wpAnyT_one (i := 3) inv (by (simp only [List.getElem?_toArray, List.getElem?_cons_succ, List.getElem?_cons_zero]); exact rfl) (by kernel_rfl) (fun K hK => ?_)
    go_simp
    refine (l1Word_c _ _ _ hcD hgs3).mono ?_; rintro e w5 ⟨y, rfl, hy, hc5, hgr5⟩
    have hgr5 : w3.grownBy w5 (some g) := ⟨hgr5.os, hgr5.tape, hgr5.output, hgr5.size, hgr5.block⟩
    have X5 := hide (row_keep hgr5 X3.out hbg)
    have Y5 := hide (row_keep hgr5 Y3.out hng)
    have HO5 := hide (own_keep HO3.out hgr5 hgs)
    have hg5 := grown_trans hg3 hgr5
    have hgs5 : g < w5.heap.size := Nat.lt_of_lt_of_le hgs hg5.size
    try go_wp2_with fail
    refine hK _ _ (fun _ => X5.out) (fun inv => ?_)
    have inv := inv (by decide)
    try simp only [Act.put, List.setIfInBounds_toArray, List.set_cons_zero, List.set_cons_succ]
    refine wpAnyT_one (i := 5) inv (by (simp only [List.getElem?_toArray, List.getElem?_cons_succ, List.getElem?_cons_zero]); exact rfl) (by kernel_rfl) (fun K hK => ?_)
    go_simp
    refine (l1Odd_c _ _ _ hc5 hgs5).mono ?_; rintro e w6 ⟨z, rfl, hz, hc6, hgr6⟩
    have HZ := hide hz
    clear hz
    have X6 := hide (row_keep hgr6 X5.out hbg)
    have Y6 := hide (row_keep hgr6 Y5.out hng)
    have HO6 := hide (own_keep HO5.out hgr6 hgs)
    have hg6 := grown_trans hg5 hgr6
    have hgs6 : g < w6.heap.size := Nat.lt_of_lt_of_le hgs hg6.size
    try go_wp2_with fail
    refine hK _ _ (fun _ => X6.out) (fun inv => ?_)
    have inv := inv (by decide)
    try simp only [Act.put, List.setIfInBounds_toArray, List.set_cons_zero, List.set_cons_succ]
    refine wpAnyT_take (i := 6) (v := ?tkV151) TL inv X6.out (by (simp only [List.getElem?_toArray, List.getElem?_cons_succ, List.getElem?_cons_zero]); exact rfl) (by kernel_rfl) (by kernel_rfl) (by decide) (by exact fun _ _ _ h => h) (by rfl) ?tkY151 (fun inv => ?tkR151)
    case tkY151 => (intro w' hSw; obtain ⟨_, _, _, _, _, _⟩ := five_cells hSw; go_simp <;> with_reducible rfl)
    try simp only [Act.put, List.setIfInBounds_toArray, List.set_cons_zero, List.set_cons_succ]
    have X7 := hide (heap_old (o := (.cells #[.string y, .int .i64 z] 74 : Obj)) (Array.getElem?_eq_some_iff.1 X6.out).1 X6.out)
    refine wpAnyT_one (i := 7) inv (by (simp only [List.getElem?_toArray, List.getElem?_cons_succ, List.getElem?_cons_zero]); exact rfl) (by kernel_rfl) (fun K hK => ?_)
    go_simp
    refine hK _ _ (fun _ => X7.out) (fun inv => ?_)
    have inv := inv (by decide)
    try simp only [Act.put, List.setIfInBounds_toArray, List.set_cons_zero, List.set_cons_succ]
    refine wpAnyT_one (i := 8) inv (by (simp only [List.getElem?_toArray, List.getElem?_cons_succ, List.getElem?_cons_zero]); exact rfl) (by kernel_rfl) (fun K hK => ?_)
    refine step_app rfl _ _ 26 (by exact rfl) w.heap.size 74 i0 _ 2 24 Try.underlying26 hi hz0 hz1 hz2 rfl (by decide) cellEn (fun _ => rfl) one_cell (.slice A m.length c) _ m [⟨y, z⟩] (by exact rfl) (OwnL.below HO6.out (below_alloc (Below.refl _ _) _) (Nat.le_refl _)) (by exact rfl) (rd_cell1 _) (by have := hg6.size; simp <;> omega) (by simp <;> omega) (by decide) ?_; intro v8 w8 o8 g8
    have hgA : w6.grownBy w8 (Value.slice A m.length c).ownBlock := ⟨g8.os, g8.tape, g8.output, Nat.le_trans (by simp) g8.size, fun j hj hne => (g8.block j (by simp; omega) hne).trans (heap_old hj (by rw [Array.getElem?_eq_getElem hj]) |>.trans (by rw [Array.getElem?_eq_getElem hj]))⟩
    have X8 := hide (row_keep hgA X6.out (by intro h9; exact (own_ne HO6.out X6.out (by decide) B h9.symm) rfl))
    have Y8 := hide (row_keep hgA Y6.out (by intro h9; exact (own_ne HO6.out Y6.out (by decide) _ h9.symm) rfl))
    have hc8 : Cur w8 g l := by
      have hlo : ∀ j, (Value.slice A m.length c).ownBlock = some j → w.heap.size ≤ j := fun j hj => (OwnL.lt HO6.out hj).1
      exact hc6.below (B := w.heap.size) ⟨hgA.os, hgA.tape, hgA.output, hgA.size, fun j hj => hgA.block j (by have := hg6.size; omega) (fun h9 => by have := hlo j h9.symm; omega)⟩ hgs
    have hg8 : w.grownBy w8 (some g) := ⟨hgA.os.trans hg6.os, hgA.tape.trans hg6.tape, hgA.output.trans hg6.output, Nat.le_trans hg6.size hgA.size, fun j hj hne => (hgA.block j (Nat.lt_of_lt_of_le hj hg6.size) (fun h9 => by have := (OwnL.lt HO6.out h9.symm).1; omega)).trans (hg6.block j hj hne)⟩
    refine hK _ _ (fun _ => X8.out) (fun inv => ?_)
    have inv := inv (by decide)
    try simp only [Act.put, List.setIfInBounds_toArray, List.set_cons_zero, List.set_cons_succ]
    refine wpAnyT_take (i := 9) (v := ?tkV172) TL inv X8.out (by (simp only [List.getElem?_toArray, List.getElem?_cons_succ, List.getElem?_cons_zero]); exact rfl) (by kernel_rfl) (by kernel_rfl) (by decide) (by exact fun _ _ _ h => h) (by rfl) ?tkY172 (fun inv => ?tkR172)
    case tkY172 => (intro w' hSw; obtain ⟨_, _, _, _, _, _⟩ := five_cells hSw; go_simp <;> with_reducible rfl)
    try simp only [Act.put, List.setIfInBounds_toArray, List.set_cons_zero, List.set_cons_succ]
    obtain ⟨A8, c8, he8⟩ := OwnL.shape o8
    have hl8 : (m ++ [(⟨y, z⟩ : Pu.CellD)]).length = m.length + 1 := by simp
    rw [hl8] at he8
    subst he8
    have HO8 := hide o8
    clear hl8
    obtain ⟨_, _, _, _, _, _⟩ := five_cells X8.out
    refine wpAnyT_one (i := 10) inv (by (simp only [List.getElem?_toArray, List.getElem?_cons_succ, List.getElem?_cons_zero]); exact rfl) (by kernel_rfl) (fun K hK => ?_)
    go_simp
    refine hK _ _ (fun h => absurd rfl h) (fun _ => ?_)
    refine wpAnyT_done (by kernel_rfl) ?_ _
    try simp only [Act.put, List.setIfInBounds_toArray, List.set_cons_zero, List.set_cons_succ]
    have X9 := hide (show (w8.setCell ⟨B, 3, none⟩ (.slice A8 (m.length + 1) c8)).heap[B]? = some (.cells #[.string k, .bool on, .bool br, .slice A8 (m.length + 1) c8, .int .i64 n] 28 (0, 0) : Obj) from (row5_set X8.out).2.2.1)
    have Y9 := hide (show (w8.setCell ⟨B, 3, none⟩ (.slice A8 (m.length + 1) c8)).heap[w.heap.size]? = some (.cells #[.string ⟨#[]⟩, .bool false, .bool false, .slice none 0 0, .int .i64 0] 28 (0, 0) : Obj) from row_past Y8.out (by omega))
    have HO9 : Hid (OwnL (w8.setCell ⟨B, 3, none⟩ (.slice A8 (m.length + 1) c8)) w.heap.size 74 2 cellEn (.slice A8 (m.length + 1) c8) (m ++ [(⟨y, z⟩ : Pu.CellD)])) := OwnL.set' HO8.out (by intro j hj; have := own_ne HO8.out X8.out (by decide) j hj; show ¬ B = j; omega) _
    have HM9 : Hid (DrawnC (m ++ [⟨y, z⟩])) := ⟨by simp; omega, fun x hx => by rcases List.mem_append.1 hx with hx | hx; exact HM.out.2 x hx; obtain rfl : x = ⟨y, z⟩ := (by simpa using hx); exact ⟨by show y.size ≤ 9; omega, HZ.out⟩⟩
    obtain ⟨_, _, _, _, _, _⟩ := five_cells X9.out
    obtain ⟨d0, d1, d2, d3, d4, df⟩ := five_cells Y9.out
    have HFX := hide (fun j hj => And.intro (own_ne HO9.out X9.out (by decide) j hj) (own_ne HO9.out Y9.out (by decide) j hj))
    go_wp2
    refine bodyPost_ret (v := .agg #[.string k, .bool on, .bool br, .slice A8 (m.length + 1) c8, .int .i64 n]) (by simp [results, Try.results43, go_sem, d0, d1, d2, d3, d4]) rfl ?_
    refine ⟨⟨k, on, br, m ++ [⟨y, z⟩], n⟩, _, rfl, ?_, ⟨hk, HN.out, HM9.out⟩, ?_, ?_⟩
    · iterate 5 refine OwnL.set' ?_ (by intro j hj; have := HFX.out j hj; simp <;> omega) _
      exact HO9.out
    · iterate 5 refine Cur.setc ?_ (by simp <;> omega) _
      exact Cur.setc hc8 hgBB _
    · iterate 5 refine grown_new ?_ (by simp <;> omega) _
      exact grown_new hg8 (by show w.heap.size ≤ B; omega) _
  by_cases hx4 : x = 4
  · subst hx4
    obtain ⟨_, _, _, _, _, _⟩ := five_cells X3.out
    go_wp2_with fail
    refine (l1Odd_c _ _ _ hc3 hgs3).mono ?_; rintro e w4 ⟨y, rfl, hy, hc4, hgr4⟩
    have HY := hide hy
    clear hy
    have X4 := hide (row_keep hgr4 X3.out hbg)
    have Y4 := hide (row_keep hgr4 Y3.out hng)
    have HO4 := hide (own_keep HO3.out hgr4 hgs)
    have hg4 := grown_trans hg3 hgr4
    obtain ⟨_, _, _, _, _, _⟩ := five_cells X4.out
    obtain ⟨d0, d1, d2, d3, d4, df⟩ := five_cells Y4.out
    have HFX := hide (fun j hj => And.intro (own_ne HO4.out X4.out (by decide) j hj) (own_ne HO4.out Y4.out (by decide) j hj))
    go_wp2
    refine bodyPost_ret (v := .agg #[.string k, .bool on, .bool br, .slice A m.length c, .int .i64 y]) (by simp [results, Try.results43, go_sem, d0, d1, d2, d3, d4]) rfl ?_
    refine ⟨⟨k, on, br, m, y⟩, _, rfl, ?_, ⟨hk, HY.out, HM.out⟩, ?_, ?_⟩
    · iterate 6 refine OwnL.set' ?_ (by intro j hj; have := HFX.out j hj; simp <;> omega) _
      exact HO4.out
    · iterate 6 refine Cur.setc ?_ (by simp <;> omega) _
      exact hc4
    · iterate 6 refine grown_new ?_ (by simp <;> omega) _
      exact hg4
  obtain ⟨_, _, _, _, _, _⟩ := five_cells X3.out
  obtain ⟨d0, d1, d2, d3, d4, df⟩ := five_cells Y3.out
  have HFX := hide (fun j hj => And.intro (own_ne HO3.out X3.out (by decide) j hj) (own_ne HO3.out Y3.out (by decide) j hj))
  go_wp2
  refine bodyPost_ret (v := .agg #[.string k, .bool on, .bool br, .slice A m.length c, .int .i64 n]) (by simp [results, Try.results43, go_sem, d0, d1, d2, d3, d4]) rfl ?_
  refine ⟨⟨k, on, br, m, n⟩, _, rfl, ?_, ⟨hk, HN.out, HM.out⟩, ?_, ?_⟩
  · iterate 5 refine OwnL.set' ?_ (by intro j hj; have := HFX.out j hj; simp <;> omega) _
    exact HO3.out
  · iterate 5 refine Cur.setc ?_ (by simp <;> omega) _
    exact hc3
  · iterate 5 refine grown_new ?_ (by simp <;> omega) _
    exact hg3
end Go.Proofs.Ytnabpefjcgehiaa
