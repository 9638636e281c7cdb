/- A drawn part in the making: its block, its two rows, the block of the result, the cursor. -/
import Derived.Test.YtnabpefjcgehiaaDrawPre
namespace Go.Proofs.Ytnabpefjcgehiaa
open Go.ChangeShapes Go.WideShapes Go.ChangeAt Go.RowKit
set_option maxRecDepth 100000
def partObj (p : Pu.PartD) (s t : Value) : Obj := .cells #[.string p.core.kind, .bool p.core.on, .bool p.core.broken, s, .int .i64 p.core.count, t] 31 (0, 0)
def partNil : Obj := .cells #[.string ⟨#[]⟩, .bool false, .bool false, .slice none 0 0, .int .i64 0, .slice none 0 0] 31 (0, 0)
structure PartSt (W : World) (g B : Nat) (l : List UInt8) (p : Pu.PartD) (s t : Value) (w : World) : Prop where
  row : w.heap[B]? = some (partObj p s t)
  res : w.heap[W.heap.size]? = some partNil
  cells : OwnL w W.heap.size 74 2 cellEn s p.core.cells
  lays : OwnL w W.heap.size 57 2 layerEn t p.layers
  cur : Cur w g l
  grown : W.grownBy w (some g)
section
variable {W w w' : World} {g B : Nat} {l : List UInt8} {p q : Pu.PartD} {s t s' t' : Value}
theorem PartSt.keep (h : PartSt W g B l p s t w) (hg : g < W.heap.size) (hB : W.heap.size < B) (hI : CurI w g l w') : PartSt W g B l p s t w' :=
  ⟨grown_row' hI.2 h.row (by intro e; have := Option.some.inj e; omega), grown_row' hI.2 h.res (by intro e; have := Option.some.inj e; omega), own_keep h.cells hI.2 hg, own_keep h.lays hI.2 hg, hI.1, grown_trans h.grown hI.2⟩
theorem PartSt.lt (h : PartSt W g B l p s t w) (hg : g < W.heap.size) : g < w.heap.size := Nat.lt_of_lt_of_le hg h.grown.size
theorem PartSt.ltB (h : PartSt W g B l p s t w) : B < w.heap.size := (Array.getElem?_eq_some_iff.1 h.row).1
theorem PartSt.draw (h : PartSt W g B l p s t w) (hg : g < W.heap.size) (hB : W.heap.size < B) (hc' : Cur w' g l) (hgr : w.grownBy w' (some g)) : PartSt W g B l p s t w' := h.keep hg hB ⟨hc', hgr⟩
theorem PartSt.below (h : PartSt W g B l p s t w) (hg : g < W.heap.size) (hB : W.heap.size < B) (hb : Below w.heap.size w w') : PartSt W g B l p s t w' :=
  h.keep hg hB ⟨h.cur.kept hb (h.lt hg), grown_below (grown_refl _ _) hb⟩
theorem own_setB {α : Type} {e : TypeId} {size : Nat} {en : α → List Value} {v : Value} {m : List α} {cs : Array Value} {T : TypeId} (h : OwnL w W.heap.size e size en v m) (hr : w.heap[B]? = some (.cells cs T (0, 0))) (hT : T ≠ e) (j : Nat) (u : Value) : OwnL (w.setCell ⟨B, j, none⟩ u) W.heap.size e size en v m :=
  OwnL.set' h (fun k hk e9 => own_apart h hr hT (by rw [hk]; exact congrArg some e9.symm)) _
/-- the whole part is written -/
theorem PartSt.put (h : PartSt W g B l p s t w) (hg : g < W.heap.size) (hB : W.heap.size < B) (hs : OwnL w W.heap.size 74 2 cellEn s' q.core.cells) (ht : OwnL w W.heap.size 57 2 layerEn t' q.layers) :
    PartSt W g B l q s' t' ((((((w.setCell ⟨B, 0, none⟩ (.string q.core.kind)).setCell ⟨B, 1, none⟩ (.bool q.core.on)).setCell ⟨B, 2, none⟩ (.bool q.core.broken)).setCell ⟨B, 3, none⟩ s').setCell ⟨B, 4, none⟩ (.int .i64 q.core.count)).setCell ⟨B, 5, none⟩ t') := by
  have r0 := heap_setCell_same w B 0 _ _ (.string q.core.kind) h.row
  have r1 := heap_setCell_same _ B 1 _ _ (.bool q.core.on) r0
  have r2 := heap_setCell_same _ B 2 _ _ (.bool q.core.broken) r1
  have r3 := heap_setCell_same _ B 3 _ _ s' r2
  have r4 := heap_setCell_same _ B 4 _ _ (.int .i64 q.core.count) r3
  have r5 := heap_setCell_same _ B 5 _ _ t' r4
  refine ⟨r5, ?_, ?_, ?_, ?_, ?_⟩
  · iterate 6 refine row_past ?_ (by omega)
    exact h.res
  · exact own_setB (own_setB (own_setB (own_setB (own_setB (own_setB hs h.row (by decide) _ _) r0 (by decide) _ _) r1 (by decide) _ _) r2 (by decide) _ _) r3 (by decide) _ _) r4 (by decide) _ _
  · exact own_setB (own_setB (own_setB (own_setB (own_setB (own_setB ht h.row (by decide) _ _) r0 (by decide) _ _) r1 (by decide) _ _) r2 (by decide) _ _) r3 (by decide) _ _) r4 (by decide) _ _
  · iterate 6 refine Cur.setc ?_ (by show g < B; omega) _
    exact h.cur
  · iterate 6 refine grown_new ?_ (by show W.heap.size ≤ B; omega) _
    exact h.grown
/-- the core of the part is written -/
theorem PartSt.core (h : PartSt W g B l p s t w) (hg : g < W.heap.size) (hB : W.heap.size < B) {c : Pu.CoreD} (hs : OwnL w W.heap.size 74 2 cellEn s' c.cells) :
    PartSt W g B l ⟨c, p.layers⟩ s' t (((((w.setCell ⟨B, 0, none⟩ (.string c.kind)).setCell ⟨B, 1, none⟩ (.bool c.on)).setCell ⟨B, 2, none⟩ (.bool c.broken)).setCell ⟨B, 3, none⟩ s').setCell ⟨B, 4, none⟩ (.int .i64 c.count)) := by
  have r0 := heap_setCell_same w B 0 _ _ (.string c.kind) h.row
  have r1 := heap_setCell_same _ B 1 _ _ (.bool c.on) r0
  have r2 := heap_setCell_same _ B 2 _ _ (.bool c.broken) r1
  have r3 := heap_setCell_same _ B 3 _ _ s' r2
  have r4 := heap_setCell_same _ B 4 _ _ (.int .i64 c.count) r3
  refine ⟨r4, ?_, ?_, ?_, ?_, ?_⟩
  · iterate 5 refine row_past ?_ (by omega)
    exact h.res
  · exact own_setB (own_setB (own_setB (own_setB (own_setB hs h.row (by decide) _ _) r0 (by decide) _ _) r1 (by decide) _ _) r2 (by decide) _ _) r3 (by decide) _ _
  · exact own_setB (own_setB (own_setB (own_setB (own_setB h.lays h.row (by decide) _ _) r0 (by decide) _ _) r1 (by decide) _ _) r2 (by decide) _ _) r3 (by decide) _ _
  · iterate 5 refine Cur.setc ?_ (by show g < B; omega) _
    exact h.cur
  · iterate 5 refine grown_new ?_ (by show W.heap.size ≤ B; omega) _
    exact h.grown
/-- the part's layers are another row -/
theorem PartSt.five (h : PartSt W g B l p s t w) (hg : g < W.heap.size) (hB : W.heap.size < B) {ys : List Pu.LayerD} (ht : OwnL w W.heap.size 57 2 layerEn t' ys) :
    PartSt W g B l ⟨p.core, ys⟩ s t' (w.setCell ⟨B, 5, none⟩ t') := by
  have r5 := heap_setCell_same w B 5 _ _ t' h.row
  exact ⟨r5, row_past h.res (by omega), own_setB h.cells h.row (by decide) _ _, own_setB ht h.row (by decide) _ _, h.cur.setc (by show g < B; omega) _, grown_new h.grown (by show W.heap.size ≤ B; omega) _⟩
theorem flat_set {en : Pu.LayerD → List Value} (hs : ∀ x, (en x).length = 2) {x' : Pu.LayerD} {u : Value} : ∀ {m : List Pu.LayerD} {k : Nat} {x : Pu.LayerD}, m[k]? = some x → en x' = (en x).set 1 u → (m.set k x').flatMap en = (m.flatMap en).set (k * 2 + 1) u
  | y :: m, 0, x, hx, he => by
    obtain rfl : y = x := by simpa using hx
    have h2 := hs y
    simp only [List.set_cons_zero, List.flatMap_cons, he]
    rw [List.set_append_left _ _ (by omega)]
  | y :: m, k + 1, x, hx, he => by
    have h2 := hs y
    have hx' : m[k]? = some x := by simpa using hx
    simp only [List.set_cons_succ, List.flatMap_cons, flat_set hs hx' he]
    rw [List.set_append_right _ _ (by omega)]
    congr 1
    congr 1
    omega
/-- one layer's number is written -/
theorem PartSt.count (h : PartSt W g B l p s t w) (hg : g < W.heap.size) {G n c k : Nat} (ht : t = .slice (some ⟨G, 0, none⟩) n c) {x : Pu.LayerD} (hx : p.layers[k]? = some x) (v : Int) :
    PartSt W g B l ⟨p.core, p.layers.set k ⟨x.name, v⟩⟩ s t (w.setCell ⟨G, k * 2 + 1, none⟩ (.int .i64 v)) ∧ StoreOf w (w.setCell ⟨G, k * 2 + 1, none⟩ (.int .i64 v)) G 57 := by
  subst ht
  have hG : W.heap.size ≤ G := (OwnL.lt h.lays rfl).1
  have hBG : G ≠ B := fun e => own_apart h.lays h.row (by decide) (congrArg some e)
  have hRG : G ≠ W.heap.size := fun e => own_apart h.lays h.res (by decide) (congrArg some e)
  obtain ⟨A', c', e0⟩ := OwnL.shape h.lays
  have hn : n = p.layers.length := by injection e0
  subst hn
  clear e0
  have hl := h.lays
  unfold OwnL at hl
  have h9 := (World.ownsRow.stored hl (k * 2 + 1) (.int .i64 v)).1
  rw [← flat_set (en := layerEn) (x' := ⟨x.name, v⟩) (fun _ => rfl) hx rfl] at h9
  have hS : StoreOf w (w.setCell ⟨G, k * 2 + 1, none⟩ (.int .i64 v)) G 57 := by
    obtain ⟨_, h2⟩ := hl
    rcases h2 with ⟨h0, _⟩ | ⟨G', cap, cur, he, _, hr, _⟩
    · cases h0
    · injection he with he _ _
      obtain rfl : G = G' := by injection he with he; injection he
      exact ⟨_, _, hr, heap_setCell_same w G (k * 2 + 1) _ _ _ hr, by simp, grown_sets w G [(k * 2 + 1, .int .i64 v)] w (grown_refl _ _)⟩
  refine ⟨⟨row_past h.row hBG, row_past h.res hRG, ?_, ?_, h.cur.setc (by show g < G; omega) _, grown_new h.grown hG _⟩, hS⟩
  · obtain ⟨cs, _, hr, _⟩ := hS
    exact own_setB h.cells hr (by decide) _ _
  · unfold OwnL
    simpa using h9
/-- a layer more: the row may be another one -/
theorem PartSt.grow (h : PartSt W g B l p s t w) (hg : g < W.heap.size) (hB : W.heap.size < B) (hgr : w.grownBy w' t.ownBlock) {ys : List Pu.LayerD} (ht : OwnL w' W.heap.size 57 2 layerEn t' ys) :
    w'.heap[B]? = some (partObj p s t) ∧ PartSt W g B l ⟨p.core, ys⟩ s t' (w'.setCell ⟨B, 5, none⟩ t') := by
  have hlo : ∀ j, t.ownBlock = some j → W.heap.size ≤ j := fun j hj => (OwnL.lt h.lays hj).1
  have hr : w'.heap[B]? = some (partObj p s t) := row_keep hgr h.row (fun e => own_apart h.lays h.row (by decide) e.symm)
  have hz : w'.heap[W.heap.size]? = some partNil := row_keep hgr h.res (fun e => own_apart h.lays h.res (by decide) e.symm)
  have hgw : ∀ j, j < w.heap.size → some j ≠ t.ownBlock → w'.heap[j]? = w.heap[j]? := fun j h1 h2 => hgr.block j h1 h2
  have hs : OwnL w' W.heap.size 74 2 cellEn s p.core.cells := by
    refine OwnL.kept h.cells hgr ?_
    rcases hb : s.ownBlock with _ | j
    · exact .inl rfl
    · refine .inr fun e => ?_
      obtain ⟨_, h2⟩ := h.lays
      rcases h2 with ⟨rfl, _⟩ | ⟨G, cap, cur, rfl, _, hrow, _⟩
      · cases e
      · exact own_apart h.cells hrow (by decide) (hb.trans e)
  have hc : Cur w' g l := h.cur.below (B := W.heap.size) ⟨hgr.os, hgr.tape, hgr.output, hgr.size, fun j hj => hgr.block j (Nat.lt_of_lt_of_le hj h.grown.size) (fun e => by have := hlo j e.symm; omega)⟩ hg
  have hG : W.grownBy w' (some g) := ⟨hgr.os.trans h.grown.os, hgr.tape.trans h.grown.tape, hgr.output.trans h.grown.output, Nat.le_trans h.grown.size hgr.size, fun j hj hne => (hgr.block j (Nat.lt_of_lt_of_le hj h.grown.size) (fun e => by have := hlo j e.symm; omega)).trans (h.grown.block j hj hne)⟩
  exact ⟨hr, heap_setCell_same w' B 5 _ _ t' hr, row_past hz (by omega), own_setB hs hr (by decide) _ _, own_setB ht hr (by decide) _ _, hc.setc (by show g < B; omega) _, grown_new hG (by show W.heap.size ≤ B; omega) _⟩
theorem rd_layer1 (y : Pu.LayerD) : RdL (w.alloc (.cells (layerEn y).toArray 57 : Obj)) 2 layerEn (.slice (some ⟨w.heap.size, 0, none⟩) 1 1) [y] := by
  refine ⟨_, 1, rfl, Nat.le_refl _, by decide, fun _ => ⟨w.heap.size, 0, rfl, by simp, fun i x hx j u hu => ?_⟩⟩
  rcases i with _ | i
  · have e : y = x := by simpa using hx
    subst e
    rw [cell_of_row _ w.heap.size _ _ _ (0, 0) (heap_new rfl)]
    simpa using hu
  · simp at hx
theorem firm_row {TS : List TypeId} {R : Nat} {T : TypeId} {cs : Array Value} (hT : T ∉ TS) : Firm TS (fun wx => wx.heap[R]? = some (.cells cs T (0, 0))) := by
  intro w w' hm hr
  have hlt : R < w.heap.size := (Array.getElem?_eq_some_iff.1 hr).1
  rcases hm with hm | ⟨g2, T2, hT2, cs2, cs', h1, h2, h3, h4⟩
  · exact (hm.block R hlt).trans hr
  · by_cases he : R = g2
    · subst he
      rw [hr] at h1
      injection h1 with h1
      injection h1 with e1 e2 _
      subst e2
      exact absurd hT2 hT
    · exact (h4.block R hlt (fun e => he (Option.some.inj e))).trans hr
/-- a layer of the part, where it lies -/
theorem PartSt.at_ (h : PartSt W g B l p s t w) {k : Nat} (hk : k < p.layers.length) :
    ∃ G c x, t = .slice (some ⟨G, 0, none⟩) p.layers.length c ∧ Hid (p.layers[k]? = some x) ∧ w.cell? ⟨G, k * 2, none⟩ = some (.string x.name) ∧ w.cell? ⟨G, k * 2 + 1, none⟩ = some (.int .i64 x.count) ∧ w.frozen? ⟨G, k * 2 + 1, none⟩ = false ∧ p.layers.length ≤ c ∧ c ≤ 9223372036854775807 ∧ W.heap.size ≤ G ∧ G < w.heap.size := by
  obtain ⟨G, c, e, h1, h2, h3, h4⟩ := OwnL.at_ h.lays (by omega)
  have hx : p.layers[k]? = some p.layers[k] := List.getElem?_eq_getElem hk
  have hl := h.lays
  unfold OwnL at hl
  rw [e] at hl
  refine ⟨G, c, p.layers[k], e, hx, ?_, ?_, World.ownsRow.frozenAt hl _, h3, h4, h1, h2⟩
  · rw [World.ownsRow.cellAt hl (k * 2) (by omega)]
    have := flat_at (en := layerEn) (size := 2) (fun _ => rfl) hx (j := 0) (u := .string p.layers[k].name) rfl
    simpa using this
  · rw [World.ownsRow.cellAt hl (k * 2 + 1) (by omega)]
    exact flat_at (en := layerEn) (size := 2) (fun _ => rfl) hx (j := 1) rfl
/-- the result's block is written -/
theorem PartSt.ret (h : PartSt W g B l p s t w) (hg : g < W.heap.size) (u0 u1 u2 u3 u4 u5 : Value) {w9 : World}
    (hw : w9 = (((((w.setCell ⟨W.heap.size, 0, none⟩ u0).setCell ⟨W.heap.size, 1, none⟩ u1).setCell ⟨W.heap.size, 2, none⟩ u2).setCell ⟨W.heap.size, 3, none⟩ u3).setCell ⟨W.heap.size, 4, none⟩ u4).setCell ⟨W.heap.size, 5, none⟩ u5) :
    OwnL w9 W.heap.size 74 2 cellEn s p.core.cells ∧ OwnL w9 W.heap.size 57 2 layerEn t p.layers ∧ Cur w9 g l ∧ W.grownBy w9 (some g) := by
  subst hw
  have r0 := heap_setCell_same w W.heap.size 0 _ _ u0 h.res
  have r1 := heap_setCell_same _ W.heap.size 1 _ _ u1 r0
  have r2 := heap_setCell_same _ W.heap.size 2 _ _ u2 r1
  have r3 := heap_setCell_same _ W.heap.size 3 _ _ u3 r2
  have r4 := heap_setCell_same _ W.heap.size 4 _ _ u4 r3
  refine ⟨?_, ?_, ?_, ?_⟩
  · exact own_setB (own_setB (own_setB (own_setB (own_setB (own_setB h.cells h.res (by decide) _ _) r0 (by decide) _ _) r1 (by decide) _ _) r2 (by decide) _ _) r3 (by decide) _ _) r4 (by decide) _ _
  · exact own_setB (own_setB (own_setB (own_setB (own_setB (own_setB h.lays h.res (by decide) _ _) r0 (by decide) _ _) r1 (by decide) _ _) r2 (by decide) _ _) r3 (by decide) _ _) r4 (by decide) _ _
  · iterate 6 refine Cur.setc ?_ (by show g < W.heap.size; omega) _
    exact h.cur
  · iterate 6 refine grown_new ?_ (Nat.le_refl _) _
    exact h.grown
end
end Go.Proofs.Ytnabpefjcgehiaa
