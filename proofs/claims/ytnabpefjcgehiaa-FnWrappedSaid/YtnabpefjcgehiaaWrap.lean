/- Contracts: Unwrap, Wrap. -/
import Derived.Test.YtnabpefjcgehiaaM2
import Derived.Test.YtnabpefjcgehiaaIsPart
namespace Go.Proofs.Ytnabpefjcgehiaa
open Go.ChangeShapes Go.WideShapes Go.ChangeAt Go.RowKit
set_option maxRecDepth 100000
/-- a shorter slice of an owned row -/
theorem OwnL.cut {α : Type} {w : World} {base : Nat} {e : TypeId} {size : Nat} {en : α → List Value} {A : Option Addr} {c k : Nat} {l : List α} (hen : ∀ x, (en x).length = size) (h : OwnL w base e size en (.slice A l.length c) l) (hk : k ≤ l.length) :
    OwnL w base e size en (.slice A k c) (l.take k) := by
  have hlen : (l.take k).length = k := by rw [List.length_take]; omega
  have hfl := flat_len hen (l.take k)
  refine ⟨hfl, ?_⟩
  rcases h.2 with ⟨hv, h0⟩ | ⟨g, cap, cur, hv, hb, hg, hnc, hcm, hcs, htake⟩
  · have hk0 : k = 0 := by omega
    subst hk0
    simp only [Value.slice.injEq] at hv
    obtain ⟨rfl, _, rfl⟩ := hv
    exact .inl ⟨rfl, by simp⟩
  · simp only [Value.slice.injEq, true_and] at hv
    obtain ⟨rfl, rfl⟩ := hv
    rw [hlen]
    refine .inr ⟨g, c, cur, rfl, hb, hg, by omega, hcm, hcs, ?_⟩
    have e1 : l.flatMap en = (l.take k).flatMap en ++ (l.drop k).flatMap en := by rw [← List.flatMap_append, List.take_append_drop]
    have e2 : cur.toList.take (k * size) = (cur.toList.take (l.length * size)).take (k * size) := by
      rw [List.take_take, Nat.min_eq_left (Nat.mul_le_mul_right size hk)]
    rw [e2, htake, e1, List.take_append_of_le_length (by rw [hfl, hlen]; exact Nat.le_refl _), List.take_of_length_le (by rw [hfl, hlen]; exact Nat.le_refl _)]
def Pu.unwrapOk (p : Pu.PartD) : Bool := Pu.partB p && !(p.layers.length == 0)
def Pu.unwrapP (p : Pu.PartD) : Pu.PartD := if Pu.unwrapOk p then ⟨p.core, p.layers.take (p.layers.length - 1)⟩ else p
theorem Pu.unwrapP_len {p : Pu.PartD} (h : p.core.cells.length ≤ 1048576) (h' : p.layers.length ≤ 1048576) : (Pu.unwrapP p).core.cells.length ≤ 2097152 ∧ (Pu.unwrapP p).layers.length ≤ 2097152 := by
  unfold Pu.unwrapP
  split
  · simp; omega
  · omega
set_option maxHeartbeats 2000000 in
theorem iUnwrap_c (p : Pu.PartD) (s t : Value) (w : World) (hw : CoreD.wf p.core) (hs : RdCells w s p.core.cells) (ht : RdL w 2 layerEn t p.layers) (hl : p.core.cells.length ≤ 16777216) (hl' : p.layers.length ≤ 16777216) :
    Calls Try.prog 19 #[partV p s t] w fun e w' => (∃ s' t', e = .returned (.tuple #[partV (Pu.unwrapP p) s' t', .bool (Pu.unwrapOk p)]) ∧ OwnL w' w.heap.size 74 2 cellEn s' (Pu.unwrapP p).core.cells ∧ OwnL w' w.heap.size 57 2 layerEn t' (Pu.unwrapP p).layers ∧ (s'.ownBlock = none ∨ s'.ownBlock ≠ t'.ownBlock)) ∧ Below w.heap.size w w' := by
  obtain ⟨T, tc, rfl, htc, htm, hTA⟩ := ht.open_
  have HS := hide hs
  have HT := hide ht
  have HTA := hide hTA
  have HWF := hide hw
  clear hs ht hw hTA
  unfold partV
  go_enter Try.func19, Try.ntmps19
  obtain ⟨w0, hw0⟩ : ∃ w0, Hid ((w.alloc (.cells #[.string p.core.kind, .bool p.core.on, .bool p.core.broken, s, .int .i64 p.core.count, .slice T p.layers.length tc] 31 : Obj)).alloc (.cells #[.string ⟨#[]⟩, .bool false, .bool false, .slice none 0 0, .int .i64 0, .slice none 0 0] 31 : Obj) = w0) := ⟨_, rfl⟩
  have b0 : Below w.heap.size w w0 := by rw [← hw0.out]; exact below_alloc (below_alloc (Below.refl _ _) _) _
  have Y0 := hide (show w0.heap[w.heap.size]? = some (.cells #[.string p.core.kind, .bool p.core.on, .bool p.core.broken, s, .int .i64 p.core.count, .slice T p.layers.length tc] 31 : Obj) by rw [← hw0.out]; exact heap_old (by simp) (heap_new rfl))
  have Y1 := hide (show w0.heap[w.heap.size + 1]? = some (.cells #[.string ⟨#[]⟩, .bool false, .bool false, .slice none 0 0, .int .i64 0, .slice none 0 0] 31 : Obj) by rw [← hw0.out]; exact heap_new (by simp))
  have hs0 : Hid (w0.heap.size = w.heap.size + 1 + 1) := by rw [← hw0.out, Hid]; simp
  go_wp2_with fail
  rw [hw0.out]
  refine (iCopyPart_c p s _ _ (RdL.below HS.out.1 b0 (Nat.le_refl _)) (RdL.below HT.out b0 (Nat.le_refl _)) hl hl').mono ?_; rintro e w1 ⟨s1, t1, rfl, o1, p1, n1, b1⟩
  obtain ⟨A1, k1, rfl⟩ := o1.shape
  obtain ⟨B1, l1, rfl⟩ := p1.shape
  unfold partV
  have B1' : Below w.heap.size w w1 := below_then b0 b1
  have U0 := hide (below_row b1 Y0.out)
  have U1 := hide (below_row b1 Y1.out)
  have hL0 : w.heap.size < w1.heap.size := (Array.getElem?_eq_some_iff.1 U0.out).1
  have hL1 : w.heap.size + 1 < w1.heap.size := (Array.getElem?_eq_some_iff.1 U1.out).1
  obtain ⟨_, _, _, _, _, _, _⟩ := six_cells U0.out
  have O1 := hide o1
  have P1 := hide p1
  have N1 := hide n1
  clear b1 o1 p1 n1
  go_wp2_with fail
  refine (iIsPart_c p s _ _ HWF.out (RdCells.below HS.out (below_alloc B1' _)) (RdL.below HT.out (below_alloc B1' _) (Nat.le_refl _))).mono ?_; rintro e w2 ⟨rfl, b2⟩
  have B2' : Below w.heap.size w w2 := below_then (below_alloc B1' _) b2
  have d2 : Below w1.heap.size w1 w2 := below_then (below_alloc (Below.refl _ _) _) b2
  have V0 := hide (below_row d2 U0.out)
  have V1 := hide (below_row d2 U1.out)
  have V2 := hide (show w2.heap[w1.heap.size]? = some (.cells #[.string p.core.kind, .bool p.core.on, .bool p.core.broken, .slice A1 p.core.cells.length k1, .int .i64 p.core.count, .slice B1 p.layers.length l1] 31 : Obj) from (b2.block w1.heap.size (by simp)).trans (heap_new rfl))
  have hM : w1.heap.size < w2.heap.size := (Array.getElem?_eq_some_iff.1 V2.out).1
  obtain ⟨_, _, _, _, _, _, _⟩ := six_cells V0.out
  obtain ⟨a0, a1, a2, a3, a4, a5, af⟩ := six_cells V1.out
  obtain ⟨c0, c1, c2, c3, c4, c5, cf⟩ := six_cells V2.out
  have O2 := hide (OwnL.below O1.out d2 (Nat.le_refl _))
  have P2 := hide (OwnL.below P1.out d2 (Nat.le_refl _))
  clear b2
  rcases hb : Pu.partB p
  · have HE : Hid (Pu.unwrapOk p = false) := by rw [Hid, Pu.unwrapOk, hb]; rfl
    have HP : Hid (Pu.unwrapP p = p) := by rw [Hid, Pu.unwrapP, HE.out]; rfl
    clear hb
    go_wp2_with fail
    have h0 := hs0.out
    simp only [HP.out, HE.out]
    clear HE HP
    have HB2 := (((((B2'.setCell (p := ⟨w.heap.size + 1, 0, none⟩) (by simp) (Value.string p.core.kind)).setCell (p := ⟨w.heap.size + 1, 1, none⟩) (by simp) (Value.bool p.core.on)).setCell (p := ⟨w.heap.size + 1, 2, none⟩) (by simp) (Value.bool p.core.broken)).setCell (p := ⟨w.heap.size + 1, 3, none⟩) (by simp) (Value.slice A1 p.core.cells.length k1)).setCell (p := ⟨w.heap.size + 1, 4, none⟩) (by simp) (Value.int .i64 p.core.count)).setCell (p := ⟨w.heap.size + 1, 5, none⟩) (by simp) (Value.slice B1 p.layers.length l1)
    refine bodyPost_ret (v := .tuple #[.agg #[.string p.core.kind, .bool p.core.on, .bool p.core.broken, .slice A1 p.core.cells.length k1, .int .i64 p.core.count, Value.slice B1 p.layers.length l1], .bool false]) (by simp [results, Try.results19, go_sem, a0, a1, a2, a3, a4, a5]) rfl ⟨⟨_, _, rfl, ?_, ?_, N1.out⟩, HB2⟩
    · refine OwnL.mono (b' := w.heap.size) (base := w0.heap.size) ?_ (by omega)
      have HO' := O2.out
      iterate 6 refine OwnL.set ?_ (by simp <;> omega) _
      exact HO'
    · refine OwnL.mono (b' := w.heap.size) (base := w0.heap.size) ?_ (by omega)
      have HO' := P2.out
      iterate 6 refine OwnL.set ?_ (by simp <;> omega) _
      exact HO'
  by_cases hl0 : p.layers.length = 0
  · have HE : Hid (Pu.unwrapOk p = false) := by rw [Hid, Pu.unwrapOk, hl0]; simp
    have HP : Hid (Pu.unwrapP p = p) := by rw [Hid, Pu.unwrapP, HE.out]; rfl
    clear hb
    have P3 := hide (show OwnL w2 w0.heap.size 57 2 layerEn (Value.slice B1 0 l1) p.layers by have h9 := P2.out; rw [hl0] at h9; exact h9)
    have N3 := hide (show (Value.slice A1 p.core.cells.length k1).ownBlock = none ∨ (Value.slice A1 p.core.cells.length k1).ownBlock ≠ (Value.slice B1 0 l1).ownBlock by have h9 := N1.out; rw [hl0] at h9; exact h9)
    go_wp2_with fail
    have h0 := hs0.out
    simp only [HP.out, HE.out]
    clear HE HP
    have HB2 := (((((B2'.setCell (p := ⟨w.heap.size + 1, 0, none⟩) (by simp) (Value.string p.core.kind)).setCell (p := ⟨w.heap.size + 1, 1, none⟩) (by simp) (Value.bool p.core.on)).setCell (p := ⟨w.heap.size + 1, 2, none⟩) (by simp) (Value.bool p.core.broken)).setCell (p := ⟨w.heap.size + 1, 3, none⟩) (by simp) (Value.slice A1 p.core.cells.length k1)).setCell (p := ⟨w.heap.size + 1, 4, none⟩) (by simp) (Value.int .i64 p.core.count)).setCell (p := ⟨w.heap.size + 1, 5, none⟩) (by simp) (Value.slice B1 0 l1)
    refine bodyPost_ret (v := .tuple #[.agg #[.string p.core.kind, .bool p.core.on, .bool p.core.broken, .slice A1 p.core.cells.length k1, .int .i64 p.core.count, Value.slice B1 0 l1], .bool false]) (by simp [results, Try.results19, go_sem, a0, a1, a2, a3, a4, a5]) rfl ⟨⟨_, _, rfl, ?_, ?_, N3.out⟩, HB2⟩
    · refine OwnL.mono (b' := w.heap.size) (base := w0.heap.size) ?_ (by omega)
      have HO' := O2.out
      iterate 6 refine OwnL.set ?_ (by simp <;> omega) _
      exact HO'
    · refine OwnL.mono (b' := w.heap.size) (base := w0.heap.size) ?_ (by omega)
      have HO' := P3.out
      iterate 6 refine OwnL.set ?_ (by simp <;> omega) _
      exact HO'
  · have HE : Hid (Pu.unwrapOk p = true) := by rw [Hid, Pu.unwrapOk, hb]; simp [hl0]
    have HP : Hid (Pu.unwrapP p = ⟨p.core, p.layers.take (p.layers.length - 1)⟩) := by rw [Hid, Pu.unwrapP, HE.out]; rfl
    have e1 : IntKind.i64.wrap ((p.layers.length : Int) - 1) = ((p.layers.length - 1 : Nat) : Int) := by rw [show (p.layers.length : Int) - 1 = ((p.layers.length - 1 : Nat) : Int) by omega]; exact IntWalk.i64_in _ (by omega)
    have h0 := hs0.out
    clear hb
    obtain ⟨g, c, hsl, hgb, hgs, hlc, hcm⟩ := P2.out.at_ (by omega)
    simp only [Value.slice.injEq, true_and] at hsl
    obtain ⟨rfl, rfl⟩ := hsl
    have hlc' : p.layers.length - 1 ≤ l1 := by omega
    have C2 := hide (OwnL.cut (en := layerEn) (size := 2) (l := p.layers) (k := p.layers.length - 1) (fun _ => rfl) P2.out (by omega))
    have HX : Hid (∀ h, (Value.slice A1 p.core.cells.length k1).ownBlock = some h → w1.heap.size ≠ h) := fun h e => by have h9 := (O1.out.lt e).2; omega
    have HY : Hid (∀ h, (Value.slice (some ⟨g, 0, none⟩) (p.layers.length - 1) l1).ownBlock = some h → w1.heap.size ≠ h) := fun h e => by have h9 := (P1.out.lt (g := h) e).2; omega
    have N3 := hide (show (Value.slice A1 p.core.cells.length k1).ownBlock = none ∨ (Value.slice A1 p.core.cells.length k1).ownBlock ≠ (Value.slice (some ⟨g, 0, none⟩) (p.layers.length - 1) l1).ownBlock from N1.out)
    go_wp2_with fail
    simp only [HP.out, HE.out]
    clear HE HP
    have HB2 := ((((((B2'.setCell (p := ⟨w1.heap.size, 5, none⟩) (by simp; omega) (Value.slice (some ⟨g, 0, none⟩) (p.layers.length - 1) l1)).setCell (p := ⟨w.heap.size + 1, 0, none⟩) (by simp) (Value.string p.core.kind)).setCell (p := ⟨w.heap.size + 1, 1, none⟩) (by simp) (Value.bool p.core.on)).setCell (p := ⟨w.heap.size + 1, 2, none⟩) (by simp) (Value.bool p.core.broken)).setCell (p := ⟨w.heap.size + 1, 3, none⟩) (by simp) (Value.slice A1 p.core.cells.length k1)).setCell (p := ⟨w.heap.size + 1, 4, none⟩) (by simp) (Value.int .i64 p.core.count)).setCell (p := ⟨w.heap.size + 1, 5, none⟩) (by simp) (Value.slice (some ⟨g, 0, none⟩) (p.layers.length - 1) l1)
    have hLn : ¬ w1.heap.size = w.heap.size + 1 := by omega
    refine bodyPost_ret (v := .tuple #[.agg #[.string p.core.kind, .bool p.core.on, .bool p.core.broken, .slice A1 p.core.cells.length k1, .int .i64 p.core.count, .slice (some ⟨g, 0, none⟩) (p.layers.length - 1) l1], .bool true]) (by simp [results, Try.results19, go_sem, a0, a1, a2, a3, a4, a5]) rfl ⟨⟨_, _, rfl, ?_, ?_, N3.out⟩, HB2⟩
    · refine OwnL.mono (b' := w.heap.size) (base := w0.heap.size) ?_ (by omega)
      have HO' := O2.out
      iterate 6 refine OwnL.set ?_ (by simp <;> omega) _
      refine OwnL.set' ?_ HX.out _
      exact HO'
    · refine OwnL.mono (b' := w.heap.size) (base := w0.heap.size) ?_ (by omega)
      have HO' := C2.out
      iterate 6 refine OwnL.set ?_ (by simp <;> omega) _
      refine OwnL.set' ?_ HY.out _
      exact HO'
end Go.Proofs.Ytnabpefjcgehiaa
