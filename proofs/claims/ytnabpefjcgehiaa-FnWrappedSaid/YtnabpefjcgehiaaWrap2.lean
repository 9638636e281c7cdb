/- Contracts: Wrap. -/
import Derived.Test.YtnabpefjcgehiaaWrap
import Derived.Test.YtnabpefjcgehiaaM0
import Derived.Test.YtnabpefjcgehiaaFace
import Derived.Deep.RegionHeld3
namespace Go.Proofs.Ytnabpefjcgehiaa
open Go.ChangeShapes Go.WideShapes Go.ChangeAt Go.RowKit
set_option maxRecDepth 100000
def Pu.wrapOk (p : Pu.PartD) (n : ByteArray) : Bool := Pu.partB p && Pu.layOk n.toList && decide (p.layers.length < 3) && Pu.offersB (Pu.faceAt p p.layers.length) (Pu.layN n.toList)
def Pu.wrapP (p : Pu.PartD) (n : ByteArray) : Pu.PartD := if Pu.wrapOk p n then ⟨p.core, p.layers ++ [⟨n, 0⟩]⟩ else p
def Pu.wrapR (p : Pu.PartD) (n : ByteArray) : Pu.ReplyD :=
  if Pu.partB p && Pu.layOk n.toList then
    if p.layers.length < 3 then
      if Pu.offersB (Pu.faceAt p p.layers.length) (Pu.layN n.toList) then ⟨0, Pu.layG n.toList, ⟨#[]⟩, 0, 0⟩ else ⟨1, 0, ⟨#[]⟩, Pu.layN n.toList, Pu.faceAt p p.layers.length⟩
    else ⟨5, 0, ⟨#[]⟩, 0, 0⟩
  else ⟨7, 0, ⟨#[]⟩, 0, 0⟩
theorem Pu.wrapP_len {p : Pu.PartD} (n : ByteArray) (h : p.core.cells.length ≤ 1048576) (h' : p.layers.length ≤ 1048576) : (Pu.wrapP p n).core.cells.length ≤ 2097152 ∧ (Pu.wrapP p n).layers.length ≤ 2097152 := by
  unfold Pu.wrapP
  split
  · simp; omega
  · omega
set_option maxHeartbeats 4000000 in
theorem iWrap_c (p : Pu.PartD) (n : ByteArray) (s t : Value) (w : World) (hw : CoreD.wf p.core) (hs : RdCells w s p.core.cells) (ht : RdL w 2 layerEn t p.layers) (hl : p.core.cells.length ≤ 16777216) (hl' : p.layers.length ≤ 16777216) :
    Calls Try.prog 17 #[partV p s t, .string n] w fun e w' => (∃ s' t', e = .returned (.tuple #[partV (Pu.wrapP p n) s' t', replyV (Pu.wrapR p n)]) ∧ OwnL w' w.heap.size 74 2 cellEn s' (Pu.wrapP p n).core.cells ∧ OwnL w' w.heap.size 57 2 layerEn t' (Pu.wrapP p n).layers ∧ (s'.ownBlock = none ∨ s'.ownBlock ≠ t'.ownBlock)) ∧ Below w.heap.size w w' := by
  obtain ⟨T, tc, rfl, htc, htm, hTA⟩ := ht.open_
  have HS := hide hs
  have HT := hide ht
  have HTA := hide hTA
  have HWF := hide hw
  clear hs ht hw hTA
  unfold partV
  go_enter Try.func17, Try.ntmps17
  obtain ⟨w0, hw0⟩ : ∃ w0, Hid ((((w.alloc (.cells #[.string p.core.kind, .bool p.core.on, .bool p.core.broken, s, .int .i64 p.core.count, .slice T p.layers.length tc] 31 : Obj)).alloc (.cells #[.string ⟨#[]⟩, .bool false, .bool false, .slice none 0 0, .int .i64 0, .slice none 0 0] 31 : Obj)).alloc (.cells #[.int .i64 0, .int .i64 0, .string ⟨#[]⟩, .int .i64 0, .int .i64 0] 33 : Obj)) = w0) := ⟨_, rfl⟩
  have b0 : Below w.heap.size w w0 := by rw [← hw0.out]; exact below_alloc (below_alloc (below_alloc (Below.refl _ _) _) _) _
  have Y0 := hide (show w0.heap[w.heap.size]? = some (.cells #[.string p.core.kind, .bool p.core.on, .bool p.core.broken, s, .int .i64 p.core.count, .slice T p.layers.length tc] 31 : Obj) by rw [← hw0.out]; exact heap_old (by simp <;> omega) (heap_old (by simp) (heap_new rfl)))
  have Y1 := hide (show w0.heap[w.heap.size + 1]? = some (.cells #[.string ⟨#[]⟩, .bool false, .bool false, .slice none 0 0, .int .i64 0, .slice none 0 0] 31 : Obj) by rw [← hw0.out]; exact heap_old (by simp) (heap_new (by simp)))
  have YR := hide (show w0.heap[w.heap.size + 1 + 1]? = some (.cells #[.int .i64 0, .int .i64 0, .string ⟨#[]⟩, .int .i64 0, .int .i64 0] 33 : Obj) by rw [← hw0.out]; exact heap_new (by simp))
  have hs0 : Hid (w0.heap.size = w.heap.size + 1 + 1 + 1) := by rw [← hw0.out, Hid]; simp
  go_wp2_with fail
  rw [hw0.out]
  refine (iCopyPart_c p s _ _ (RdL.below HS.out.1 b0 (Nat.le_refl _)) (RdL.below HT.out b0 (Nat.le_refl _)) hl hl').mono ?_; rintro e w1 ⟨s1, t1, rfl, o1, p1, n1, b1⟩
  obtain ⟨A1, k1, rfl⟩ := o1.shape
  obtain ⟨B1, l1, rfl⟩ := p1.shape
  unfold partV
  have B1' : Below w.heap.size w w1 := below_then b0 b1
  have U0 := hide (below_row b1 Y0.out)
  have U1 := hide (below_row b1 Y1.out)
  have UR := hide (below_row b1 YR.out)
  have hL0 : w.heap.size < w1.heap.size := (Array.getElem?_eq_some_iff.1 U0.out).1
  have hL1 : w.heap.size + 1 < w1.heap.size := (Array.getElem?_eq_some_iff.1 U1.out).1
  have hLR : w.heap.size + 1 + 1 < w1.heap.size := (Array.getElem?_eq_some_iff.1 UR.out).1
  obtain ⟨_, _, _, _, _, _, _⟩ := six_cells U0.out
  have O1 := hide o1
  have P1 := hide p1
  have N1 := hide n1
  clear b1 o1 p1 n1
  go_wp2_with fail
  refine (iLayerFaces_c _ _).mono ?_; rintro e w1b ⟨rfl, rfl⟩
  have bb := Below.refl (w1.alloc (.cells #[.string p.core.kind, .bool p.core.on, .bool p.core.broken, .slice A1 p.core.cells.length k1, .int .i64 p.core.count, .slice B1 p.layers.length l1] 31 : Obj)).heap.size (w1.alloc (.cells #[.string p.core.kind, .bool p.core.on, .bool p.core.broken, .slice A1 p.core.cells.length k1, .int .i64 p.core.count, .slice B1 p.layers.length l1] 31 : Obj))
  have bB : Below w1.heap.size w1 (w1.alloc (.cells #[.string p.core.kind, .bool p.core.on, .bool p.core.broken, .slice A1 p.core.cells.length k1, .int .i64 p.core.count, .slice B1 p.layers.length l1] 31 : Obj)) := below_then (below_alloc (Below.refl _ _) _) bb
  have X0 := hide (below_row bB U0.out)
  have X2 := hide (show (w1.alloc (.cells #[.string p.core.kind, .bool p.core.on, .bool p.core.broken, .slice A1 p.core.cells.length k1, .int .i64 p.core.count, .slice B1 p.layers.length l1] 31 : Obj)).heap[w1.heap.size]? = some (.cells #[.string p.core.kind, .bool p.core.on, .bool p.core.broken, .slice A1 p.core.cells.length k1, .int .i64 p.core.count, .slice B1 p.layers.length l1] 31 : Obj) from (bb.block w1.heap.size (by simp)).trans (heap_new rfl))
  obtain ⟨_, _, _, _, _, _, _⟩ := six_cells X0.out
  go_wp2_with fail
  refine (iIsPart_c p s _ _ HWF.out (RdCells.below HS.out (below_then B1' bB)) (RdL.below HT.out (below_then B1' bB) (Nat.le_refl _))).mono ?_; rintro e w2 ⟨rfl, b2⟩
  have d2 : Below w1.heap.size w1 w2 := below_then bB b2
  have B2' : Below w.heap.size w w2 := below_then B1' d2
  have V0 := hide (below_row d2 U0.out)
  have V1 := hide (below_row d2 U1.out)
  have VR := hide (below_row d2 UR.out)
  have V2 := hide (below_row b2 X2.out)
  have hM : w1.heap.size < w2.heap.size := (Array.getElem?_eq_some_iff.1 V2.out).1
  obtain ⟨_, _, _, _, _, _, _⟩ := six_cells V0.out
  obtain ⟨a0, a1, a2, a3, a4, a5, af⟩ := six_cells V1.out
  obtain ⟨c0, c1, c2, c3, c4, c5, cf⟩ := six_cells V2.out
  obtain ⟨d0, d1, d2', d3, d4, df⟩ := five_cells VR.out
  have O2 := hide (OwnL.below O1.out d2 (Nat.le_refl _))
  have P2 := hide (OwnL.below P1.out d2 (Nat.le_refl _))
  have h0 := hs0.out
  clear b2 bb bB X0 X2
  rcases hb : Pu.partB p
  · have HP : Hid (Pu.wrapP p n = p) := by rw [Hid, Pu.wrapP, Pu.wrapOk, hb]; rfl
    have HR : Hid (Pu.wrapR p n = ⟨7, 0, ⟨#[]⟩, 0, 0⟩) := by rw [Hid, Pu.wrapR, hb]; rfl
    clear hb
    go_wp2_with fail
    simp only [HP.out, HR.out]
    clear HP HR
    have HB2 := (((((((((((B2'.setCell (p := ⟨w.heap.size + 1, 0, none⟩) (by simp) (Value.string p.core.kind)).setCell (p := ⟨w.heap.size + 1, 1, none⟩) (by simp) (Value.bool p.core.on)).setCell (p := ⟨w.heap.size + 1, 2, none⟩) (by simp) (Value.bool p.core.broken)).setCell (p := ⟨w.heap.size + 1, 3, none⟩) (by simp) (Value.slice A1 p.core.cells.length k1)).setCell (p := ⟨w.heap.size + 1, 4, none⟩) (by simp) (Value.int .i64 p.core.count)).setCell (p := ⟨w.heap.size + 1, 5, none⟩) (by simp) (Value.slice B1 p.layers.length l1)).setCell (p := ⟨w.heap.size + 1 + 1, 0, none⟩) (by simp <;> omega) (Value.int .i64 (7))).setCell (p := ⟨w.heap.size + 1 + 1, 1, none⟩) (by simp <;> omega) (Value.int .i64 (0))).setCell (p := ⟨w.heap.size + 1 + 1, 2, none⟩) (by simp <;> omega) (Value.string ⟨#[]⟩)).setCell (p := ⟨w.heap.size + 1 + 1, 3, none⟩) (by simp <;> omega) (Value.int .i64 (0))).setCell (p := ⟨w.heap.size + 1 + 1, 4, none⟩) (by simp <;> omega) (Value.int .i64 (0)))
    refine bodyPost_ret (v := .tuple #[.agg #[.string p.core.kind, .bool p.core.on, .bool p.core.broken, .slice A1 p.core.cells.length k1, .int .i64 p.core.count, .slice B1 p.layers.length l1], .agg #[.int .i64 (7), .int .i64 (0), .string ⟨#[]⟩, .int .i64 (0), .int .i64 (0)]]) (by simp [results, Try.results17, go_sem, a0, a1, a2, a3, a4, a5, d0, d1, d2', d3, d4]) rfl ⟨⟨_, _, rfl, ?_, ?_, N1.out⟩, HB2⟩
    · refine OwnL.mono (b' := w.heap.size) (base := w0.heap.size) ?_ (by omega)
      have HO' := O2.out
      iterate 11 refine OwnL.set ?_ (by simp <;> omega) _
      exact HO'
    · refine OwnL.mono (b' := w.heap.size) (base := w0.heap.size) ?_ (by omega)
      have HO' := P2.out
      iterate 11 refine OwnL.set ?_ (by simp <;> omega) _
      exact HO'
  rcases hk : Pu.layOk n.toList
  · have HP : Hid (Pu.wrapP p n = p) := by rw [Hid, Pu.wrapP, Pu.wrapOk, hb, hk]; rfl
    have HR : Hid (Pu.wrapR p n = ⟨7, 0, ⟨#[]⟩, 0, 0⟩) := by rw [Hid, Pu.wrapR, hb, hk]; rfl
    clear hb hk
    go_wp2_with fail
    simp only [HP.out, HR.out]
    clear HP HR
    have HB2 := (((((((((((B2'.setCell (p := ⟨w.heap.size + 1, 0, none⟩) (by simp) (Value.string p.core.kind)).setCell (p := ⟨w.heap.size + 1, 1, none⟩) (by simp) (Value.bool p.core.on)).setCell (p := ⟨w.heap.size + 1, 2, none⟩) (by simp) (Value.bool p.core.broken)).setCell (p := ⟨w.heap.size + 1, 3, none⟩) (by simp) (Value.slice A1 p.core.cells.length k1)).setCell (p := ⟨w.heap.size + 1, 4, none⟩) (by simp) (Value.int .i64 p.core.count)).setCell (p := ⟨w.heap.size + 1, 5, none⟩) (by simp) (Value.slice B1 p.layers.length l1)).setCell (p := ⟨w.heap.size + 1 + 1, 0, none⟩) (by simp <;> omega) (Value.int .i64 (7))).setCell (p := ⟨w.heap.size + 1 + 1, 1, none⟩) (by simp <;> omega) (Value.int .i64 (0))).setCell (p := ⟨w.heap.size + 1 + 1, 2, none⟩) (by simp <;> omega) (Value.string ⟨#[]⟩)).setCell (p := ⟨w.heap.size + 1 + 1, 3, none⟩) (by simp <;> omega) (Value.int .i64 (0))).setCell (p := ⟨w.heap.size + 1 + 1, 4, none⟩) (by simp <;> omega) (Value.int .i64 (0)))
    refine bodyPost_ret (v := .tuple #[.agg #[.string p.core.kind, .bool p.core.on, .bool p.core.broken, .slice A1 p.core.cells.length k1, .int .i64 p.core.count, .slice B1 p.layers.length l1], .agg #[.int .i64 (7), .int .i64 (0), .string ⟨#[]⟩, .int .i64 (0), .int .i64 (0)]]) (by simp [results, Try.results17, go_sem, a0, a1, a2, a3, a4, a5, d0, d1, d2', d3, d4]) rfl ⟨⟨_, _, rfl, ?_, ?_, N1.out⟩, HB2⟩
    · refine OwnL.mono (b' := w.heap.size) (base := w0.heap.size) ?_ (by omega)
      have HO' := O2.out
      iterate 11 refine OwnL.set ?_ (by simp <;> omega) _
      exact HO'
    · refine OwnL.mono (b' := w.heap.size) (base := w0.heap.size) ?_ (by omega)
      have HO' := P2.out
      iterate 11 refine OwnL.set ?_ (by simp <;> omega) _
      exact HO'
  have hle : p.layers.length ≤ 3 := by
    have h9 := hb
    simp only [Pu.partB, Bool.and_eq_true, decide_eq_true_eq] at h9
    exact h9.1.2
  by_cases h3 : p.layers.length < 3
  rotate_left
  · have HP : Hid (Pu.wrapP p n = p) := by rw [Hid, Pu.wrapP, Pu.wrapOk, decide_eq_false h3]; simp
    have HR : Hid (Pu.wrapR p n = ⟨5, 0, ⟨#[]⟩, 0, 0⟩) := by rw [Hid, Pu.wrapR, hb, hk, if_neg h3]; rfl
    have h3e : (p.layers.length : Int) = 3 := by omega
    clear hb hk h3 hle
    go_wp2_with fail
    simp only [HP.out, HR.out]
    clear HP HR h3e
    have HB2 := (((((((((((B2'.setCell (p := ⟨w.heap.size + 1, 0, none⟩) (by simp) (Value.string p.core.kind)).setCell (p := ⟨w.heap.size + 1, 1, none⟩) (by simp) (Value.bool p.core.on)).setCell (p := ⟨w.heap.size + 1, 2, none⟩) (by simp) (Value.bool p.core.broken)).setCell (p := ⟨w.heap.size + 1, 3, none⟩) (by simp) (Value.slice A1 p.core.cells.length k1)).setCell (p := ⟨w.heap.size + 1, 4, none⟩) (by simp) (Value.int .i64 p.core.count)).setCell (p := ⟨w.heap.size + 1, 5, none⟩) (by simp) (Value.slice B1 p.layers.length l1)).setCell (p := ⟨w.heap.size + 1 + 1, 0, none⟩) (by simp <;> omega) (Value.int .i64 (5))).setCell (p := ⟨w.heap.size + 1 + 1, 1, none⟩) (by simp <;> omega) (Value.int .i64 (0))).setCell (p := ⟨w.heap.size + 1 + 1, 2, none⟩) (by simp <;> omega) (Value.string ⟨#[]⟩)).setCell (p := ⟨w.heap.size + 1 + 1, 3, none⟩) (by simp <;> omega) (Value.int .i64 (0))).setCell (p := ⟨w.heap.size + 1 + 1, 4, none⟩) (by simp <;> omega) (Value.int .i64 (0)))
    refine bodyPost_ret (v := .tuple #[.agg #[.string p.core.kind, .bool p.core.on, .bool p.core.broken, .slice A1 p.core.cells.length k1, .int .i64 p.core.count, .slice B1 p.layers.length l1], .agg #[.int .i64 (5), .int .i64 (0), .string ⟨#[]⟩, .int .i64 (0), .int .i64 (0)]]) (by simp [results, Try.results17, go_sem, a0, a1, a2, a3, a4, a5, d0, d1, d2', d3, d4]) rfl ⟨⟨_, _, rfl, ?_, ?_, N1.out⟩, HB2⟩
    · refine OwnL.mono (b' := w.heap.size) (base := w0.heap.size) ?_ (by omega)
      have HO' := O2.out
      iterate 11 refine OwnL.set ?_ (by simp <;> omega) _
      exact HO'
    · refine OwnL.mono (b' := w.heap.size) (base := w0.heap.size) ?_ (by omega)
      have HO' := P2.out
      iterate 11 refine OwnL.set ?_ (by simp <;> omega) _
      exact HO'
  have h3e : ¬ (p.layers.length : Int) = 3 := by omega
  have h3f : ¬ 3 ≤ (p.layers.length : Int) := by omega
  have h3g : (p.layers.length : Int) < 3 := by omega
  have HK := hide hk
  have HBB := hide hb
  have H3 := hide h3
  clear hk hb h3
  go_wp2_with fail
  refine (iFaceOf_c p s _ _ (RdL.below HT.out B2' (Nat.le_refl _))).mono ?_; rintro e w3 ⟨rfl, b3⟩
  have B3' := below_then B2' b3
  have W0 := hide (below_row b3 V0.out)
  have W1 := hide (below_row b3 V1.out)
  have WR := hide (below_row b3 VR.out)
  have W2 := hide (below_row b3 V2.out)
  have hM3 : w1.heap.size < w3.heap.size := (Array.getElem?_eq_some_iff.1 W2.out).1
  have O3 := hide (OwnL.below O2.out b3 (Nat.le_refl _))
  have P3 := hide (OwnL.below P2.out b3 (Nat.le_refl _))
  obtain ⟨_, _, _, _, _, _, _⟩ := six_cells W0.out
  obtain ⟨a0, a1, a2, a3, a4, a5, af⟩ := six_cells W1.out
  obtain ⟨c0, c1, c2, c3, c4, c5, cf⟩ := six_cells W2.out
  obtain ⟨d0, d1, d2', d3, d4, df⟩ := five_cells WR.out
  go_wp2_with fail
  refine (iOffers_c _ _ _).mono ?_; rintro e w4 ⟨rfl, rfl⟩
  rcases hof : Pu.offersB (Pu.faceAt p p.layers.length) (Pu.layN n.toList)
  · have HP : Hid (Pu.wrapP p n = p) := by rw [Hid, Pu.wrapP, Pu.wrapOk, hof]; simp
    have HR : Hid (Pu.wrapR p n = ⟨1, 0, ⟨#[]⟩, Pu.layN n.toList, Pu.faceAt p p.layers.length⟩) := by rw [Hid, Pu.wrapR, HBB.out, HK.out, if_pos H3.out, hof]; rfl
    clear hof
    go_wp2_with fail
    have hw1m : w1.heap.size < w3.heap.size := hM3
    have hn5 : ¬ w.heap.size + 1 + 1 = w.heap.size := by omega
    have hn6 : ¬ w.heap.size = w.heap.size + 1 + 1 := by omega
    have hn1 : ¬ w.heap.size + 1 = w1.heap.size := by omega
    have hn2 : ¬ w.heap.size + 1 + 1 = w1.heap.size := by omega
    have hn3 : ¬ w1.heap.size = w.heap.size + 1 := by omega
    have hn4 : ¬ w1.heap.size = w.heap.size + 1 + 1 := by omega
    go_region_held3 (fun w' => w'.cell? ⟨w.heap.size, 0, none⟩ = some (.string p.core.kind) ∧ w'.cell? ⟨w.heap.size, 1, none⟩ = some (.bool p.core.on) ∧ w'.cell? ⟨w.heap.size, 2, none⟩ = some (.bool p.core.broken) ∧ w'.cell? ⟨w.heap.size, 3, none⟩ = some (s) ∧ w'.cell? ⟨w.heap.size, 4, none⟩ = some (.int .i64 p.core.count) ∧ w'.cell? ⟨w.heap.size, 5, none⟩ = some (.slice T p.layers.length tc) ∧ w'.cell? ⟨w1.heap.size, 0, none⟩ = some (.string p.core.kind) ∧ w'.cell? ⟨w1.heap.size, 1, none⟩ = some (.bool p.core.on) ∧ w'.cell? ⟨w1.heap.size, 2, none⟩ = some (.bool p.core.broken) ∧ w'.cell? ⟨w1.heap.size, 3, none⟩ = some (.slice A1 p.core.cells.length k1) ∧ w'.cell? ⟨w1.heap.size, 4, none⟩ = some (.int .i64 p.core.count) ∧ w'.cell? ⟨w1.heap.size, 5, none⟩ = some (.slice B1 p.layers.length l1)) (go_keep)
      (first
        | (go_at_call 13; refine (iFaceOf_c p s _ _ (RdL.below HT.out (by first | exact B3' | exact B3'.drew) (Nat.le_refl _))).mono ?_; rintro e w6 ⟨rfl, b6⟩;
               have hz0 : w.heap.size < w3.heap.size := (Array.getElem?_eq_some_iff.1 W0.out).1;
               have KX : ∀ k : Nat, w6.cell? ⟨w.heap.size, k, none⟩ = _ := fun k => World.cell?_of_block (b6.block w.heap.size hz0);
               have KO : ∀ k : Nat, w6.cell? ⟨w1.heap.size, k, none⟩ = _ := fun k => World.cell?_of_block (b6.block w1.heap.size hw1m);
               have z1 := hide (show w6.heap[w.heap.size + 1]? = some (.cells #[.string ⟨#[]⟩, .bool false, .bool false, .slice none 0 0, .int .i64 0, .slice none 0 0] 31 : Obj) from (b6.block (w.heap.size + 1) ((Array.getElem?_eq_some_iff.1 W1.out).1)).trans W1.out);
               have zR := hide (show w6.heap[w.heap.size + 1 + 1]? = some (.cells #[.int .i64 0, .int .i64 0, .string ⟨#[]⟩, .int .i64 0, .int .i64 0] 33 : Obj) from (b6.block (w.heap.size + 1 + 1) ((Array.getElem?_eq_some_iff.1 WR.out).1)).trans WR.out);
               obtain ⟨_, _, _, _, _, _, _⟩ := six_cells z1.out;
               obtain ⟨_, _, _, _, _, _⟩ := five_cells zR.out))
    have B6' : Below w.heap.size w w6 := below_then B3' (show Below w3.heap.size w3 w6 from ⟨b6.os, b6.tape, b6.output, b6.size, b6.block⟩)
    have O6 := hide (OwnL.below O3.out (show Below w3.heap.size w3 w6 from ⟨b6.os, b6.tape, b6.output, b6.size, b6.block⟩) (Nat.le_refl _))
    have P6 := hide (OwnL.below P3.out (show Below w3.heap.size w3 w6 from ⟨b6.os, b6.tape, b6.output, b6.size, b6.block⟩) (Nat.le_refl _))
    obtain ⟨a0, a1, a2, a3, a4, a5, af⟩ := six_cells z1.out
    obtain ⟨d0, d1, d2', d3, d4, df⟩ := five_cells zR.out
    go_wp2_with fail
    simp only [HP.out, HR.out]
    clear HP HR hn1 hn2 hn3 hn4 hn5 hn6
    have HB2 := (((((((((((B6'.setCell (p := ⟨w.heap.size + 1, 0, none⟩) (by simp) (Value.string p.core.kind)).setCell (p := ⟨w.heap.size + 1, 1, none⟩) (by simp) (Value.bool p.core.on)).setCell (p := ⟨w.heap.size + 1, 2, none⟩) (by simp) (Value.bool p.core.broken)).setCell (p := ⟨w.heap.size + 1, 3, none⟩) (by simp) (Value.slice A1 p.core.cells.length k1)).setCell (p := ⟨w.heap.size + 1, 4, none⟩) (by simp) (Value.int .i64 p.core.count)).setCell (p := ⟨w.heap.size + 1, 5, none⟩) (by simp) (Value.slice B1 p.layers.length l1)).setCell (p := ⟨w.heap.size + 1 + 1, 0, none⟩) (by simp <;> omega) (Value.int .i64 (1))).setCell (p := ⟨w.heap.size + 1 + 1, 1, none⟩) (by simp <;> omega) (Value.int .i64 (0))).setCell (p := ⟨w.heap.size + 1 + 1, 2, none⟩) (by simp <;> omega) (Value.string ⟨#[]⟩)).setCell (p := ⟨w.heap.size + 1 + 1, 3, none⟩) (by simp <;> omega) (Value.int .i64 (Pu.layN n.toList))).setCell (p := ⟨w.heap.size + 1 + 1, 4, none⟩) (by simp <;> omega) (Value.int .i64 (Pu.faceAt p p.layers.length)))
    refine bodyPost_ret (v := .tuple #[.agg #[.string p.core.kind, .bool p.core.on, .bool p.core.broken, .slice A1 p.core.cells.length k1, .int .i64 p.core.count, .slice B1 p.layers.length l1], .agg #[.int .i64 (1), .int .i64 (0), .string ⟨#[]⟩, .int .i64 (Pu.layN n.toList), .int .i64 (Pu.faceAt p p.layers.length)]]) (by simp [results, Try.results17, go_sem, a0, a1, a2, a3, a4, a5, d0, d1, d2', d3, d4]) rfl ⟨⟨_, _, rfl, ?_, ?_, N1.out⟩, HB2⟩
    · refine OwnL.mono (b' := w.heap.size) (base := w0.heap.size) ?_ (by omega)
      have HO' := O6.out
      iterate 11 refine OwnL.set ?_ (by simp <;> omega) _
      exact HO'
    · refine OwnL.mono (b' := w.heap.size) (base := w0.heap.size) ?_ (by omega)
      have HO' := P6.out
      iterate 11 refine OwnL.set ?_ (by simp <;> omega) _
      exact HO'
  · have HP : Hid (Pu.wrapP p n = ⟨p.core, p.layers ++ [⟨n, 0⟩]⟩) := by rw [Hid, Pu.wrapP, Pu.wrapOk, HBB.out, HK.out, decide_eq_true H3.out, hof]; rfl
    have HR : Hid (Pu.wrapR p n = ⟨0, Pu.layG n.toList, ⟨#[]⟩, 0, 0⟩) := by rw [Hid, Pu.wrapR, HBB.out, HK.out, if_pos H3.out, hof]; rfl
    clear hof
    obtain ⟨i0, hi, hz0, hz1, hz2⟩ := info_parts info_layer
    have hP3 := P3.out
    have hb0s : w0.heap.size ≤ w3.heap.size := by have h7 := d2.size; have h8 := b3.size; have h9 := (Array.getElem?_eq_some_iff.1 UR.out).1; omega
    have hp3l : p.layers.length < 1099511627776 := by omega
    have hP1 : Hid (∀ g, (Value.slice B1 p.layers.length l1).ownBlock = some g → w0.heap.size ≤ g ∧ g < w1.heap.size) := fun g e => P1.out.lt e
    have hne : ∀ k, (k < w0.heap.size ∨ w1.heap.size ≤ k) → some k ≠ (Value.slice B1 p.layers.length l1).ownBlock := fun k hk e => by have h9 := hP1.out k e.symm; omega
    have HNE := hide hne
    clear hne
    go_wp2_with (at_builtin; go_must (refine push_law_at rfl _ _ 29 (by exact rfl) w0.heap.size 57 i0 _ 2 24 Try.underlying29 hi hz0 hz1 hz2 rfl (by decide) layerEn _ _ ⟨n, 0⟩ (by exact rfl) hP3 (by exact rfl) rfl (one_layer _) hb0s hp3l (by decide) ?_); intro v5 w5 o5 g5 at5;
                    obtain ⟨A5, k5, rfl⟩ := (show ∃ A c, v5 = .slice A (p.layers.length + 1) c from (by obtain ⟨A, c, e⟩ := o5.shape; exact ⟨A, c, by simpa using e⟩));
                    have z1 := hide (show w5.heap[w.heap.size + 1]? = some (.cells #[.string ⟨#[]⟩, .bool false, .bool false, .slice none 0 0, .int .i64 0, .slice none 0 0] 31 : Obj) from (g5.block (w.heap.size + 1) (by have h9 := (Array.getElem?_eq_some_iff.1 W1.out).1; simp; omega) (HNE.out _ (.inl (by omega)))).trans (heap_old ((Array.getElem?_eq_some_iff.1 W1.out).1) W1.out));
                    have zR := hide (show w5.heap[w.heap.size + 1 + 1]? = some (.cells #[.int .i64 0, .int .i64 0, .string ⟨#[]⟩, .int .i64 0, .int .i64 0] 33 : Obj) from (g5.block (w.heap.size + 1 + 1) (by have h9 := (Array.getElem?_eq_some_iff.1 WR.out).1; simp; omega) (HNE.out _ (.inl (by omega)))).trans (heap_old ((Array.getElem?_eq_some_iff.1 WR.out).1) WR.out));
                    have z2 := hide (show w5.heap[w1.heap.size]? = some (.cells #[.string p.core.kind, .bool p.core.on, .bool p.core.broken, .slice A1 p.core.cells.length k1, .int .i64 p.core.count, .slice B1 p.layers.length l1] 31 : Obj) from (g5.block (w1.heap.size) (by simp; omega) (HNE.out _ (.inr (Nat.le_refl _)))).trans (heap_old hM3 W2.out));
                    have B5' : Below w.heap.size w w5 := (below_alloc B3' _).grown g5 (Below.size (below_alloc B3' _)) (fun k hk => by have h9 := (hP1.out k hk).1; omega);
                    obtain ⟨a0, a1, a2, a3, a4, a5, af⟩ := six_cells z1.out;
                    obtain ⟨c0, c1, c2, c3, c4, c5, cf⟩ := six_cells z2.out;
                    obtain ⟨d0, d1, d2', d3, d4, df⟩ := five_cells zR.out;
                    have O5 := hide (OwnL.kept (OwnL.below O3.out (below_alloc (Below.refl _ _) _) (Nat.le_refl _)) g5 N1.out);
                    have P5 := hide o5;
                    have HAT := hide at5;
                    clear o5 g5 at5)
    simp only [HP.out, HR.out]
    clear HP HR
    have HX : Hid (∀ h, (Value.slice A1 p.core.cells.length k1).ownBlock = some h → w1.heap.size ≠ h) := fun h e => by have h9 := (O1.out.lt e).2; omega
    have HY : Hid (∀ h, (Value.slice A5 (p.layers.length + 1) k5).ownBlock = some h → w1.heap.size ≠ h) := fun h e => by
      rcases HAT.out with h8 | h8
      · have h9 := (hP1.out h (h8.symm.trans e)).2; omega
      · have h9 := Option.some.inj (h8.symm.trans e); omega
    have N5 := hide (show (Value.slice A1 p.core.cells.length k1).ownBlock = none ∨ (Value.slice A1 p.core.cells.length k1).ownBlock ≠ (Value.slice A5 (p.layers.length + 1) k5).ownBlock from by
      rcases HAT.out with h8 | h8
      · rw [h8]; exact N1.out
      · rcases hv : (Value.slice A1 p.core.cells.length k1).ownBlock with _ | g
        · exact .inl rfl
        · exact .inr (fun e => by have h9 := Option.some.inj (e.trans h8); have h7 := (O1.out.lt hv).2; omega))
    have hLn : ¬ w1.heap.size = w.heap.size + 1 := by omega
    have hLn2 : ¬ w1.heap.size = w.heap.size + 1 + 1 := by omega
    have HB2 := ((((((((((((B5'.setCell (p := ⟨w1.heap.size, 5, none⟩) (by simp; omega) (Value.slice A5 (p.layers.length + 1) k5)).setCell (p := ⟨w.heap.size + 1, 0, none⟩) (by simp) (Value.string p.core.kind)).setCell (p := ⟨w.heap.size + 1, 1, none⟩) (by simp) (Value.bool p.core.on)).setCell (p := ⟨w.heap.size + 1, 2, none⟩) (by simp) (Value.bool p.core.broken)).setCell (p := ⟨w.heap.size + 1, 3, none⟩) (by simp) (Value.slice A1 p.core.cells.length k1)).setCell (p := ⟨w.heap.size + 1, 4, none⟩) (by simp) (Value.int .i64 p.core.count)).setCell (p := ⟨w.heap.size + 1, 5, none⟩) (by simp) (Value.slice A5 (p.layers.length + 1) k5)).setCell (p := ⟨w.heap.size + 1 + 1, 0, none⟩) (by simp <;> omega) (Value.int .i64 (0))).setCell (p := ⟨w.heap.size + 1 + 1, 1, none⟩) (by simp <;> omega) (Value.int .i64 (Pu.layG n.toList))).setCell (p := ⟨w.heap.size + 1 + 1, 2, none⟩) (by simp <;> omega) (Value.string ⟨#[]⟩)).setCell (p := ⟨w.heap.size + 1 + 1, 3, none⟩) (by simp <;> omega) (Value.int .i64 (0))).setCell (p := ⟨w.heap.size + 1 + 1, 4, none⟩) (by simp <;> omega) (Value.int .i64 (0)))
    refine bodyPost_ret (v := .tuple #[.agg #[.string p.core.kind, .bool p.core.on, .bool p.core.broken, .slice A1 p.core.cells.length k1, .int .i64 p.core.count, .slice A5 (p.layers.length + 1) k5], .agg #[.int .i64 0, .int .i64 (Pu.layG n.toList), .string ⟨#[]⟩, .int .i64 0, .int .i64 0]]) (by simp [results, Try.results17, go_sem, a0, a1, a2, a3, a4, a5, d0, d1, d2', d3, d4]) rfl ⟨⟨_, _, rfl, ?_, ?_, N5.out⟩, HB2⟩
    · refine OwnL.mono (b' := w.heap.size) (base := w0.heap.size) ?_ (by omega)
      have HO' := O5.out
      iterate 11 refine OwnL.set ?_ (by simp <;> omega) _
      refine OwnL.set' ?_ HX.out _
      exact HO'
    · refine OwnL.mono (b' := w.heap.size) (base := w0.heap.size) ?_ (by omega)
      have HO' := P5.out
      iterate 11 refine OwnL.set ?_ (by simp <;> omega) _
      refine OwnL.set' ?_ HY.out _
      exact HO'
set_option maxHeartbeats 4000000 in
theorem sWrap_c (p : Pu.PartD) (n : ByteArray) (s t : Value) (w : World) (_hw : CoreD.wf p.core) (hs : RdCells w s p.core.cells) (ht : RdL w 2 layerEn t p.layers) (hl : p.core.cells.length ≤ 16777216) (hl' : p.layers.length ≤ 16777216) :
    Calls Try.prog 53 #[partV p s t, .string n] w fun e w' => (∃ s' t', e = .returned (.tuple #[partV (Pu.wrapP p n) s' t', replyV (Pu.wrapR p n)]) ∧ OwnL w' w.heap.size 74 2 cellEn s' (Pu.wrapP p n).core.cells ∧ OwnL w' w.heap.size 57 2 layerEn t' (Pu.wrapP p n).layers ∧ (s'.ownBlock = none ∨ s'.ownBlock ≠ t'.ownBlock)) ∧ Below w.heap.size w w' := by
  obtain ⟨T, tc, rfl, htc, htm, hTA⟩ := ht.open_
  have HS := hide hs
  have HT := hide ht
  have HTA := hide hTA
  clear hs ht hTA
  unfold partV
  go_enter Try.func53, Try.ntmps53
  obtain ⟨w0, hw0⟩ : ∃ w0, Hid ((((w.alloc (.cells #[.string p.core.kind, .bool p.core.on, .bool p.core.broken, s, .int .i64 p.core.count, .slice T p.layers.length tc] 31 : Obj)).alloc (.cells #[.string ⟨#[]⟩, .bool false, .bool false, .slice none 0 0, .int .i64 0, .slice none 0 0] 31 : Obj)).alloc (.cells #[.int .i64 0, .int .i64 0, .string ⟨#[]⟩, .int .i64 0, .int .i64 0] 33 : Obj)) = w0) := ⟨_, rfl⟩
  have b0 : Below w.heap.size w w0 := by rw [← hw0.out]; exact below_alloc (below_alloc (below_alloc (Below.refl _ _) _) _) _
  have Y0 := hide (show w0.heap[w.heap.size]? = some (.cells #[.string p.core.kind, .bool p.core.on, .bool p.core.broken, s, .int .i64 p.core.count, .slice T p.layers.length tc] 31 : Obj) by rw [← hw0.out]; exact heap_old (by simp <;> omega) (heap_old (by simp) (heap_new rfl)))
  have Y1 := hide (show w0.heap[w.heap.size + 1]? = some (.cells #[.string ⟨#[]⟩, .bool false, .bool false, .slice none 0 0, .int .i64 0, .slice none 0 0] 31 : Obj) by rw [← hw0.out]; exact heap_old (by simp) (heap_new (by simp)))
  have YR := hide (show w0.heap[w.heap.size + 1 + 1]? = some (.cells #[.int .i64 0, .int .i64 0, .string ⟨#[]⟩, .int .i64 0, .int .i64 0] 33 : Obj) by rw [← hw0.out]; exact heap_new (by simp))
  have hs0 : Hid (w0.heap.size = w.heap.size + 1 + 1 + 1) := by rw [← hw0.out, Hid]; simp
  go_wp2_with fail
  rw [hw0.out]
  refine (sCopyPart_c p s _ _ (RdL.below HS.out.1 b0 (Nat.le_refl _)) (RdL.below HT.out b0 (Nat.le_refl _)) hl hl').mono ?_; rintro e w1 ⟨s1, t1, rfl, o1, p1, n1, b1⟩
  obtain ⟨A1, k1, rfl⟩ := o1.shape
  obtain ⟨B1, l1, rfl⟩ := p1.shape
  unfold partV
  have B1' : Below w.heap.size w w1 := below_then b0 b1
  have U0 := hide (below_row b1 Y0.out)
  have U1 := hide (below_row b1 Y1.out)
  have UR := hide (below_row b1 YR.out)
  have hL0 : w.heap.size < w1.heap.size := (Array.getElem?_eq_some_iff.1 U0.out).1
  have hL1 : w.heap.size + 1 < w1.heap.size := (Array.getElem?_eq_some_iff.1 U1.out).1
  have hLR : w.heap.size + 1 + 1 < w1.heap.size := (Array.getElem?_eq_some_iff.1 UR.out).1
  obtain ⟨_, _, _, _, _, _, _⟩ := six_cells U0.out
  have O1 := hide o1
  have P1 := hide p1
  have N1 := hide n1
  clear b1 o1 p1 n1
  go_wp2_with fail
  refine (l4Row_c _ _).mono ?_; rintro e w1b ⟨rfl, bb⟩
  have bB : Below w1.heap.size w1 w1b := below_then (below_alloc (Below.refl _ _) _) bb
  have X0 := hide (below_row bB U0.out)
  have X2 := hide (show w1b.heap[w1.heap.size]? = some (.cells #[.string p.core.kind, .bool p.core.on, .bool p.core.broken, .slice A1 p.core.cells.length k1, .int .i64 p.core.count, .slice B1 p.layers.length l1] 31 : Obj) from (bb.block w1.heap.size (by simp)).trans (heap_new rfl))
  obtain ⟨_, _, _, _, _, _, _⟩ := six_cells X0.out
  go_wp2_with fail
  refine (sIsPart_c p s _ _ (RdCells.below HS.out (below_then B1' bB)) (RdL.below HT.out (below_then B1' bB) (Nat.le_refl _))).mono ?_; rintro e w2 ⟨rfl, b2⟩
  have d2 : Below w1.heap.size w1 w2 := below_then bB b2
  have B2' : Below w.heap.size w w2 := below_then B1' d2
  have V0 := hide (below_row d2 U0.out)
  have V1 := hide (below_row d2 U1.out)
  have VR := hide (below_row d2 UR.out)
  have V2 := hide (below_row b2 X2.out)
  have hM : w1.heap.size < w2.heap.size := (Array.getElem?_eq_some_iff.1 V2.out).1
  obtain ⟨_, _, _, _, _, _, _⟩ := six_cells V0.out
  obtain ⟨a0, a1, a2, a3, a4, a5, af⟩ := six_cells V1.out
  obtain ⟨c0, c1, c2, c3, c4, c5, cf⟩ := six_cells V2.out
  obtain ⟨d0, d1, d2', d3, d4, df⟩ := five_cells VR.out
  have O2 := hide (OwnL.below O1.out d2 (Nat.le_refl _))
  have P2 := hide (OwnL.below P1.out d2 (Nat.le_refl _))
  have h0 := hs0.out
  clear b2 bb bB X0 X2
  rcases hb : Pu.partB p
  · have HP : Hid (Pu.wrapP p n = p) := by rw [Hid, Pu.wrapP, Pu.wrapOk, hb]; rfl
    have HR : Hid (Pu.wrapR p n = ⟨7, 0, ⟨#[]⟩, 0, 0⟩) := by rw [Hid, Pu.wrapR, hb]; rfl
    clear hb
    go_wp2_with fail
    simp only [HP.out, HR.out]
    clear HP HR
    have HB2 := (((((((((((B2'.setCell (p := ⟨w.heap.size + 1, 0, none⟩) (by simp) (Value.string p.core.kind)).setCell (p := ⟨w.heap.size + 1, 1, none⟩) (by simp) (Value.bool p.core.on)).setCell (p := ⟨w.heap.size + 1, 2, none⟩) (by simp) (Value.bool p.core.broken)).setCell (p := ⟨w.heap.size + 1, 3, none⟩) (by simp) (Value.slice A1 p.core.cells.length k1)).setCell (p := ⟨w.heap.size + 1, 4, none⟩) (by simp) (Value.int .i64 p.core.count)).setCell (p := ⟨w.heap.size + 1, 5, none⟩) (by simp) (Value.slice B1 p.layers.length l1)).setCell (p := ⟨w.heap.size + 1 + 1, 0, none⟩) (by simp <;> omega) (Value.int .i64 (7))).setCell (p := ⟨w.heap.size + 1 + 1, 1, none⟩) (by simp <;> omega) (Value.int .i64 (0))).setCell (p := ⟨w.heap.size + 1 + 1, 2, none⟩) (by simp <;> omega) (Value.string ⟨#[]⟩)).setCell (p := ⟨w.heap.size + 1 + 1, 3, none⟩) (by simp <;> omega) (Value.int .i64 (0))).setCell (p := ⟨w.heap.size + 1 + 1, 4, none⟩) (by simp <;> omega) (Value.int .i64 (0)))
    refine bodyPost_ret (v := .tuple #[.agg #[.string p.core.kind, .bool p.core.on, .bool p.core.broken, .slice A1 p.core.cells.length k1, .int .i64 p.core.count, .slice B1 p.layers.length l1], .agg #[.int .i64 (7), .int .i64 (0), .string ⟨#[]⟩, .int .i64 (0), .int .i64 (0)]]) (by simp [results, Try.results53, go_sem, a0, a1, a2, a3, a4, a5, d0, d1, d2', d3, d4]) rfl ⟨⟨_, _, rfl, ?_, ?_, N1.out⟩, HB2⟩
    · refine OwnL.mono (b' := w.heap.size) (base := w0.heap.size) ?_ (by omega)
      have HO' := O2.out
      iterate 11 refine OwnL.set ?_ (by simp <;> omega) _
      exact HO'
    · refine OwnL.mono (b' := w.heap.size) (base := w0.heap.size) ?_ (by omega)
      have HO' := P2.out
      iterate 11 refine OwnL.set ?_ (by simp <;> omega) _
      exact HO'
  rcases hk : Pu.layOk n.toList
  · have HP : Hid (Pu.wrapP p n = p) := by rw [Hid, Pu.wrapP, Pu.wrapOk, hb, hk]; rfl
    have HR : Hid (Pu.wrapR p n = ⟨7, 0, ⟨#[]⟩, 0, 0⟩) := by rw [Hid, Pu.wrapR, hb, hk]; rfl
    clear hb hk
    go_wp2_with fail
    simp only [HP.out, HR.out]
    clear HP HR
    have HB2 := (((((((((((B2'.setCell (p := ⟨w.heap.size + 1, 0, none⟩) (by simp) (Value.string p.core.kind)).setCell (p := ⟨w.heap.size + 1, 1, none⟩) (by simp) (Value.bool p.core.on)).setCell (p := ⟨w.heap.size + 1, 2, none⟩) (by simp) (Value.bool p.core.broken)).setCell (p := ⟨w.heap.size + 1, 3, none⟩) (by simp) (Value.slice A1 p.core.cells.length k1)).setCell (p := ⟨w.heap.size + 1, 4, none⟩) (by simp) (Value.int .i64 p.core.count)).setCell (p := ⟨w.heap.size + 1, 5, none⟩) (by simp) (Value.slice B1 p.layers.length l1)).setCell (p := ⟨w.heap.size + 1 + 1, 0, none⟩) (by simp <;> omega) (Value.int .i64 (7))).setCell (p := ⟨w.heap.size + 1 + 1, 1, none⟩) (by simp <;> omega) (Value.int .i64 (0))).setCell (p := ⟨w.heap.size + 1 + 1, 2, none⟩) (by simp <;> omega) (Value.string ⟨#[]⟩)).setCell (p := ⟨w.heap.size + 1 + 1, 3, none⟩) (by simp <;> omega) (Value.int .i64 (0))).setCell (p := ⟨w.heap.size + 1 + 1, 4, none⟩) (by simp <;> omega) (Value.int .i64 (0)))
    refine bodyPost_ret (v := .tuple #[.agg #[.string p.core.kind, .bool p.core.on, .bool p.core.broken, .slice A1 p.core.cells.length k1, .int .i64 p.core.count, .slice B1 p.layers.length l1], .agg #[.int .i64 (7), .int .i64 (0), .string ⟨#[]⟩, .int .i64 (0), .int .i64 (0)]]) (by simp [results, Try.results53, go_sem, a0, a1, a2, a3, a4, a5, d0, d1, d2', d3, d4]) rfl ⟨⟨_, _, rfl, ?_, ?_, N1.out⟩, HB2⟩
    · refine OwnL.mono (b' := w.heap.size) (base := w0.heap.size) ?_ (by omega)
      have HO' := O2.out
      iterate 11 refine OwnL.set ?_ (by simp <;> omega) _
      exact HO'
    · refine OwnL.mono (b' := w.heap.size) (base := w0.heap.size) ?_ (by omega)
      have HO' := P2.out
      iterate 11 refine OwnL.set ?_ (by simp <;> omega) _
      exact HO'
  have hle : p.layers.length ≤ 3 := by
    have h9 := hb
    simp only [Pu.partB, Bool.and_eq_true, decide_eq_true_eq] at h9
    exact h9.1.2
  by_cases h3 : p.layers.length < 3
  rotate_left
  · have HP : Hid (Pu.wrapP p n = p) := by rw [Hid, Pu.wrapP, Pu.wrapOk, decide_eq_false h3]; simp
    have HR : Hid (Pu.wrapR p n = ⟨5, 0, ⟨#[]⟩, 0, 0⟩) := by rw [Hid, Pu.wrapR, hb, hk, if_neg h3]; rfl
    have h3e : (p.layers.length : Int) = 3 := by omega
    clear hb hk h3 hle
    go_wp2_with fail
    simp only [HP.out, HR.out]
    clear HP HR h3e
    have HB2 := (((((((((((B2'.setCell (p := ⟨w.heap.size + 1, 0, none⟩) (by simp) (Value.string p.core.kind)).setCell (p := ⟨w.heap.size + 1, 1, none⟩) (by simp) (Value.bool p.core.on)).setCell (p := ⟨w.heap.size + 1, 2, none⟩) (by simp) (Value.bool p.core.broken)).setCell (p := ⟨w.heap.size + 1, 3, none⟩) (by simp) (Value.slice A1 p.core.cells.length k1)).setCell (p := ⟨w.heap.size + 1, 4, none⟩) (by simp) (Value.int .i64 p.core.count)).setCell (p := ⟨w.heap.size + 1, 5, none⟩) (by simp) (Value.slice B1 p.layers.length l1)).setCell (p := ⟨w.heap.size + 1 + 1, 0, none⟩) (by simp <;> omega) (Value.int .i64 (5))).setCell (p := ⟨w.heap.size + 1 + 1, 1, none⟩) (by simp <;> omega) (Value.int .i64 (0))).setCell (p := ⟨w.heap.size + 1 + 1, 2, none⟩) (by simp <;> omega) (Value.string ⟨#[]⟩)).setCell (p := ⟨w.heap.size + 1 + 1, 3, none⟩) (by simp <;> omega) (Value.int .i64 (0))).setCell (p := ⟨w.heap.size + 1 + 1, 4, none⟩) (by simp <;> omega) (Value.int .i64 (0)))
    refine bodyPost_ret (v := .tuple #[.agg #[.string p.core.kind, .bool p.core.on, .bool p.core.broken, .slice A1 p.core.cells.length k1, .int .i64 p.core.count, .slice B1 p.layers.length l1], .agg #[.int .i64 (5), .int .i64 (0), .string ⟨#[]⟩, .int .i64 (0), .int .i64 (0)]]) (by simp [results, Try.results53, go_sem, a0, a1, a2, a3, a4, a5, d0, d1, d2', d3, d4]) rfl ⟨⟨_, _, rfl, ?_, ?_, N1.out⟩, HB2⟩
    · refine OwnL.mono (b' := w.heap.size) (base := w0.heap.size) ?_ (by omega)
      have HO' := O2.out
      iterate 11 refine OwnL.set ?_ (by simp <;> omega) _
      exact HO'
    · refine OwnL.mono (b' := w.heap.size) (base := w0.heap.size) ?_ (by omega)
      have HO' := P2.out
      iterate 11 refine OwnL.set ?_ (by simp <;> omega) _
      exact HO'
  have h3e : ¬ (p.layers.length : Int) = 3 := by omega
  have h3f : ¬ 3 ≤ (p.layers.length : Int) := by omega
  have h3g : (p.layers.length : Int) < 3 := by omega
  have HK := hide hk
  have HBB := hide hb
  have H3 := hide h3
  clear hk hb h3
  go_wp2_with fail
  refine (sFaceOf_c p s _ _ (RdL.below HT.out B2' (Nat.le_refl _))).mono ?_; rintro e w3 ⟨rfl, b3⟩
  have B3' := below_then B2' b3
  have W0 := hide (below_row b3 V0.out)
  have W1 := hide (below_row b3 V1.out)
  have WR := hide (below_row b3 VR.out)
  have W2 := hide (below_row b3 V2.out)
  have hM3 : w1.heap.size < w3.heap.size := (Array.getElem?_eq_some_iff.1 W2.out).1
  have O3 := hide (OwnL.below O2.out b3 (Nat.le_refl _))
  have P3 := hide (OwnL.below P2.out b3 (Nat.le_refl _))
  obtain ⟨_, _, _, _, _, _, _⟩ := six_cells W0.out
  obtain ⟨a0, a1, a2, a3, a4, a5, af⟩ := six_cells W1.out
  obtain ⟨c0, c1, c2, c3, c4, c5, cf⟩ := six_cells W2.out
  obtain ⟨d0, d1, d2', d3, d4, df⟩ := five_cells WR.out
  go_wp2_with fail
  refine (sOffers_c _ _ _).mono ?_; rintro e w4 ⟨rfl, rfl⟩
  rcases hof : Pu.offersB (Pu.faceAt p p.layers.length) (Pu.layN n.toList)
  · have HP : Hid (Pu.wrapP p n = p) := by rw [Hid, Pu.wrapP, Pu.wrapOk, hof]; simp
    have HR : Hid (Pu.wrapR p n = ⟨1, 0, ⟨#[]⟩, Pu.layN n.toList, Pu.faceAt p p.layers.length⟩) := by rw [Hid, Pu.wrapR, HBB.out, HK.out, if_pos H3.out, hof]; rfl
    clear hof
    go_wp2_with fail
    have hw1m : w1.heap.size < w3.heap.size := hM3
    have hn5 : ¬ w.heap.size + 1 + 1 = w.heap.size := by omega
    have hn6 : ¬ w.heap.size = w.heap.size + 1 + 1 := by omega
    have hn1 : ¬ w.heap.size + 1 = w1.heap.size := by omega
    have hn2 : ¬ w.heap.size + 1 + 1 = w1.heap.size := by omega
    have hn3 : ¬ w1.heap.size = w.heap.size + 1 := by omega
    have hn4 : ¬ w1.heap.size = w.heap.size + 1 + 1 := by omega
    go_region_held3 (fun w' => w'.cell? ⟨w.heap.size, 0, none⟩ = some (.string p.core.kind) ∧ w'.cell? ⟨w.heap.size, 1, none⟩ = some (.bool p.core.on) ∧ w'.cell? ⟨w.heap.size, 2, none⟩ = some (.bool p.core.broken) ∧ w'.cell? ⟨w.heap.size, 3, none⟩ = some (s) ∧ w'.cell? ⟨w.heap.size, 4, none⟩ = some (.int .i64 p.core.count) ∧ w'.cell? ⟨w.heap.size, 5, none⟩ = some (.slice T p.layers.length tc) ∧ w'.cell? ⟨w1.heap.size, 0, none⟩ = some (.string p.core.kind) ∧ w'.cell? ⟨w1.heap.size, 1, none⟩ = some (.bool p.core.on) ∧ w'.cell? ⟨w1.heap.size, 2, none⟩ = some (.bool p.core.broken) ∧ w'.cell? ⟨w1.heap.size, 3, none⟩ = some (.slice A1 p.core.cells.length k1) ∧ w'.cell? ⟨w1.heap.size, 4, none⟩ = some (.int .i64 p.core.count) ∧ w'.cell? ⟨w1.heap.size, 5, none⟩ = some (.slice B1 p.layers.length l1)) (go_keep)
      (first
        | (go_at_call 33; refine (sFaceOf_c p s _ _ (RdL.below HT.out (by first | exact B3' | exact B3'.drew) (Nat.le_refl _))).mono ?_; rintro e w6 ⟨rfl, b6⟩;
               have hz0 : w.heap.size < w3.heap.size := (Array.getElem?_eq_some_iff.1 W0.out).1;
               have KX : ∀ k : Nat, w6.cell? ⟨w.heap.size, k, none⟩ = _ := fun k => World.cell?_of_block (b6.block w.heap.size hz0);
               have KO : ∀ k : Nat, w6.cell? ⟨w1.heap.size, k, none⟩ = _ := fun k => World.cell?_of_block (b6.block w1.heap.size hw1m);
               have z1 := hide (show w6.heap[w.heap.size + 1]? = some (.cells #[.string ⟨#[]⟩, .bool false, .bool false, .slice none 0 0, .int .i64 0, .slice none 0 0] 31 : Obj) from (b6.block (w.heap.size + 1) ((Array.getElem?_eq_some_iff.1 W1.out).1)).trans W1.out);
               have zR := hide (show w6.heap[w.heap.size + 1 + 1]? = some (.cells #[.int .i64 0, .int .i64 0, .string ⟨#[]⟩, .int .i64 0, .int .i64 0] 33 : Obj) from (b6.block (w.heap.size + 1 + 1) ((Array.getElem?_eq_some_iff.1 WR.out).1)).trans WR.out);
               obtain ⟨_, _, _, _, _, _, _⟩ := six_cells z1.out;
               obtain ⟨_, _, _, _, _, _⟩ := five_cells zR.out))
    have B6' : Below w.heap.size w w6 := below_then B3' (show Below w3.heap.size w3 w6 from ⟨b6.os, b6.tape, b6.output, b6.size, b6.block⟩)
    have O6 := hide (OwnL.below O3.out (show Below w3.heap.size w3 w6 from ⟨b6.os, b6.tape, b6.output, b6.size, b6.block⟩) (Nat.le_refl _))
    have P6 := hide (OwnL.below P3.out (show Below w3.heap.size w3 w6 from ⟨b6.os, b6.tape, b6.output, b6.size, b6.block⟩) (Nat.le_refl _))
    obtain ⟨a0, a1, a2, a3, a4, a5, af⟩ := six_cells z1.out
    obtain ⟨d0, d1, d2', d3, d4, df⟩ := five_cells zR.out
    go_wp2_with fail
    simp only [HP.out, HR.out]
    clear HP HR hn1 hn2 hn3 hn4 hn5 hn6
    have HB2 := (((((((((((B6'.setCell (p := ⟨w.heap.size + 1, 0, none⟩) (by simp) (Value.string p.core.kind)).setCell (p := ⟨w.heap.size + 1, 1, none⟩) (by simp) (Value.bool p.core.on)).setCell (p := ⟨w.heap.size + 1, 2, none⟩) (by simp) (Value.bool p.core.broken)).setCell (p := ⟨w.heap.size + 1, 3, none⟩) (by simp) (Value.slice A1 p.core.cells.length k1)).setCell (p := ⟨w.heap.size + 1, 4, none⟩) (by simp) (Value.int .i64 p.core.count)).setCell (p := ⟨w.heap.size + 1, 5, none⟩) (by simp) (Value.slice B1 p.layers.length l1)).setCell (p := ⟨w.heap.size + 1 + 1, 0, none⟩) (by simp <;> omega) (Value.int .i64 (1))).setCell (p := ⟨w.heap.size + 1 + 1, 1, none⟩) (by simp <;> omega) (Value.int .i64 (0))).setCell (p := ⟨w.heap.size + 1 + 1, 2, none⟩) (by simp <;> omega) (Value.string ⟨#[]⟩)).setCell (p := ⟨w.heap.size + 1 + 1, 3, none⟩) (by simp <;> omega) (Value.int .i64 (Pu.layN n.toList))).setCell (p := ⟨w.heap.size + 1 + 1, 4, none⟩) (by simp <;> omega) (Value.int .i64 (Pu.faceAt p p.layers.length)))
    refine bodyPost_ret (v := .tuple #[.agg #[.string p.core.kind, .bool p.core.on, .bool p.core.broken, .slice A1 p.core.cells.length k1, .int .i64 p.core.count, .slice B1 p.layers.length l1], .agg #[.int .i64 (1), .int .i64 (0), .string ⟨#[]⟩, .int .i64 (Pu.layN n.toList), .int .i64 (Pu.faceAt p p.layers.length)]]) (by simp [results, Try.results53, go_sem, a0, a1, a2, a3, a4, a5, d0, d1, d2', d3, d4]) rfl ⟨⟨_, _, rfl, ?_, ?_, N1.out⟩, HB2⟩
    · refine OwnL.mono (b' := w.heap.size) (base := w0.heap.size) ?_ (by omega)
      have HO' := O6.out
      iterate 11 refine OwnL.set ?_ (by simp <;> omega) _
      exact HO'
    · refine OwnL.mono (b' := w.heap.size) (base := w0.heap.size) ?_ (by omega)
      have HO' := P6.out
      iterate 11 refine OwnL.set ?_ (by simp <;> omega) _
      exact HO'
  · have HP : Hid (Pu.wrapP p n = ⟨p.core, p.layers ++ [⟨n, 0⟩]⟩) := by rw [Hid, Pu.wrapP, Pu.wrapOk, HBB.out, HK.out, decide_eq_true H3.out, hof]; rfl
    have HR : Hid (Pu.wrapR p n = ⟨0, Pu.layG n.toList, ⟨#[]⟩, 0, 0⟩) := by rw [Hid, Pu.wrapR, HBB.out, HK.out, if_pos H3.out, hof]; rfl
    clear hof
    obtain ⟨i0, hi, hz0, hz1, hz2⟩ := info_parts info_layer
    have hP3 := P3.out
    have hb0s : w0.heap.size ≤ w3.heap.size := by have h7 := d2.size; have h8 := b3.size; have h9 := (Array.getElem?_eq_some_iff.1 UR.out).1; omega
    have hp3l : p.layers.length < 1099511627776 := by omega
    have hP1 : Hid (∀ g, (Value.slice B1 p.layers.length l1).ownBlock = some g → w0.heap.size ≤ g ∧ g < w1.heap.size) := fun g e => P1.out.lt e
    have hne : ∀ k, (k < w0.heap.size ∨ w1.heap.size ≤ k) → some k ≠ (Value.slice B1 p.layers.length l1).ownBlock := fun k hk e => by have h9 := hP1.out k e.symm; omega
    have HNE := hide hne
    clear hne
    go_wp2_with (at_builtin; go_must (refine push_law_at rfl _ _ 29 (by exact rfl) w0.heap.size 57 i0 _ 2 24 Try.underlying29 hi hz0 hz1 hz2 rfl (by decide) layerEn _ _ ⟨n, 0⟩ (by exact rfl) hP3 (by exact rfl) rfl (one_layer _) hb0s hp3l (by decide) ?_); intro v5 w5 o5 g5 at5;
                    obtain ⟨A5, k5, rfl⟩ := (show ∃ A c, v5 = .slice A (p.layers.length + 1) c from (by obtain ⟨A, c, e⟩ := o5.shape; exact ⟨A, c, by simpa using e⟩));
                    have z1 := hide (show w5.heap[w.heap.size + 1]? = some (.cells #[.string ⟨#[]⟩, .bool false, .bool false, .slice none 0 0, .int .i64 0, .slice none 0 0] 31 : Obj) from (g5.block (w.heap.size + 1) (by have h9 := (Array.getElem?_eq_some_iff.1 W1.out).1; simp; omega) (HNE.out _ (.inl (by omega)))).trans (heap_old ((Array.getElem?_eq_some_iff.1 W1.out).1) W1.out));
                    have zR := hide (show w5.heap[w.heap.size + 1 + 1]? = some (.cells #[.int .i64 0, .int .i64 0, .string ⟨#[]⟩, .int .i64 0, .int .i64 0] 33 : Obj) from (g5.block (w.heap.size + 1 + 1) (by have h9 := (Array.getElem?_eq_some_iff.1 WR.out).1; simp; omega) (HNE.out _ (.inl (by omega)))).trans (heap_old ((Array.getElem?_eq_some_iff.1 WR.out).1) WR.out));
                    have z2 := hide (show w5.heap[w1.heap.size]? = some (.cells #[.string p.core.kind, .bool p.core.on, .bool p.core.broken, .slice A1 p.core.cells.length k1, .int .i64 p.core.count, .slice B1 p.layers.length l1] 31 : Obj) from (g5.block (w1.heap.size) (by simp; omega) (HNE.out _ (.inr (Nat.le_refl _)))).trans (heap_old hM3 W2.out));
                    have B5' : Below w.heap.size w w5 := (below_alloc B3' _).grown g5 (Below.size (below_alloc B3' _)) (fun k hk => by have h9 := (hP1.out k hk).1; omega);
                    obtain ⟨a0, a1, a2, a3, a4, a5, af⟩ := six_cells z1.out;
                    obtain ⟨c0, c1, c2, c3, c4, c5, cf⟩ := six_cells z2.out;
                    obtain ⟨d0, d1, d2', d3, d4, df⟩ := five_cells zR.out;
                    have O5 := hide (OwnL.kept (OwnL.below O3.out (below_alloc (Below.refl _ _) _) (Nat.le_refl _)) g5 N1.out);
                    have P5 := hide o5;
                    have HAT := hide at5;
                    clear o5 g5 at5)
    simp only [HP.out, HR.out]
    clear HP HR
    have HX : Hid (∀ h, (Value.slice A1 p.core.cells.length k1).ownBlock = some h → w1.heap.size ≠ h) := fun h e => by have h9 := (O1.out.lt e).2; omega
    have HY : Hid (∀ h, (Value.slice A5 (p.layers.length + 1) k5).ownBlock = some h → w1.heap.size ≠ h) := fun h e => by
      rcases HAT.out with h8 | h8
      · have h9 := (hP1.out h (h8.symm.trans e)).2; omega
      · have h9 := Option.some.inj (h8.symm.trans e); omega
    have N5 := hide (show (Value.slice A1 p.core.cells.length k1).ownBlock = none ∨ (Value.slice A1 p.core.cells.length k1).ownBlock ≠ (Value.slice A5 (p.layers.length + 1) k5).ownBlock from by
      rcases HAT.out with h8 | h8
      · rw [h8]; exact N1.out
      · rcases hv : (Value.slice A1 p.core.cells.length k1).ownBlock with _ | g
        · exact .inl rfl
        · exact .inr (fun e => by have h9 := Option.some.inj (e.trans h8); have h7 := (O1.out.lt hv).2; omega))
    have hLn : ¬ w1.heap.size = w.heap.size + 1 := by omega
    have hLn2 : ¬ w1.heap.size = w.heap.size + 1 + 1 := by omega
    have HB2 := ((((((((((((B5'.setCell (p := ⟨w1.heap.size, 5, none⟩) (by simp; omega) (Value.slice A5 (p.layers.length + 1) k5)).setCell (p := ⟨w.heap.size + 1, 0, none⟩) (by simp) (Value.string p.core.kind)).setCell (p := ⟨w.heap.size + 1, 1, none⟩) (by simp) (Value.bool p.core.on)).setCell (p := ⟨w.heap.size + 1, 2, none⟩) (by simp) (Value.bool p.core.broken)).setCell (p := ⟨w.heap.size + 1, 3, none⟩) (by simp) (Value.slice A1 p.core.cells.length k1)).setCell (p := ⟨w.heap.size + 1, 4, none⟩) (by simp) (Value.int .i64 p.core.count)).setCell (p := ⟨w.heap.size + 1, 5, none⟩) (by simp) (Value.slice A5 (p.layers.length + 1) k5)).setCell (p := ⟨w.heap.size + 1 + 1, 0, none⟩) (by simp <;> omega) (Value.int .i64 (0))).setCell (p := ⟨w.heap.size + 1 + 1, 1, none⟩) (by simp <;> omega) (Value.int .i64 (Pu.layG n.toList))).setCell (p := ⟨w.heap.size + 1 + 1, 2, none⟩) (by simp <;> omega) (Value.string ⟨#[]⟩)).setCell (p := ⟨w.heap.size + 1 + 1, 3, none⟩) (by simp <;> omega) (Value.int .i64 (0))).setCell (p := ⟨w.heap.size + 1 + 1, 4, none⟩) (by simp <;> omega) (Value.int .i64 (0)))
    refine bodyPost_ret (v := .tuple #[.agg #[.string p.core.kind, .bool p.core.on, .bool p.core.broken, .slice A1 p.core.cells.length k1, .int .i64 p.core.count, .slice A5 (p.layers.length + 1) k5], .agg #[.int .i64 0, .int .i64 (Pu.layG n.toList), .string ⟨#[]⟩, .int .i64 0, .int .i64 0]]) (by simp [results, Try.results53, go_sem, a0, a1, a2, a3, a4, a5, d0, d1, d2', d3, d4]) rfl ⟨⟨_, _, rfl, ?_, ?_, N5.out⟩, HB2⟩
    · refine OwnL.mono (b' := w.heap.size) (base := w0.heap.size) ?_ (by omega)
      have HO' := O5.out
      iterate 11 refine OwnL.set ?_ (by simp <;> omega) _
      refine OwnL.set' ?_ HX.out _
      exact HO'
    · refine OwnL.mono (b' := w.heap.size) (base := w0.heap.size) ?_ (by omega)
      have HO' := P5.out
      iterate 11 refine OwnL.set ?_ (by simp <;> omega) _
      refine OwnL.set' ?_ HY.out _
      exact HO'
end Go.Proofs.Ytnabpefjcgehiaa
