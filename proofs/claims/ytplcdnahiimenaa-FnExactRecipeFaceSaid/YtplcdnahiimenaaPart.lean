/- Contracts: parts. -/
import Derived.Test.YtplcdnahiimenaaCore2
import Derived.Test.YtplcdnahiimenaaMem3
import Derived.Test.YtplcdnahiimenaaLayerH
import Derived.Lib.SmallJoins
namespace Go.Proofs.Ytplcdnahiimenaa
open Go.ChangeShapes Go.WideShapes Go.ChangeAt Go.RowKit
set_option maxRecDepth 100000
def Pu.totCore (p : Pu.CoreD) : Nat := p.kind.size + p.cells.length + Pu.tot (p.cells.map (·.key))
def Pu.totPart (p : Pu.PartD) : Nat := Pu.totCore p.core + p.layers.length + Pu.tot (p.layers.map (·.name))
def Pu.szPart (p : Pu.PartD) (left : Int) : Int := if (Pu.totPart p : Int) ≤ left then left - Pu.totPart p else -1
def partV (p : Pu.PartD) (s t : Value) : Value := .agg #[.string p.core.kind, .bool p.core.on, .bool p.core.broken, s, .int .i64 p.core.count, t]
def RdPart (w : World) (v : Value) (p : Pu.PartD) : Prop := CoreD.wf p.core ∧ ∃ s t, v = partV p s t ∧ RdCells w s p.core.cells ∧ RdLayers w t p.layers
theorem six_cells {W : World} {g : Nat} {t : TypeId} {a b c d e f : Value} (h : W.heap[g]? = some (.cells #[a, b, c, d, e, f] t (0, 0))) :
    W.cell? ⟨g, 0, none⟩ = some a ∧ W.cell? ⟨g, 1, none⟩ = some b ∧ W.cell? ⟨g, 2, none⟩ = some c ∧ W.cell? ⟨g, 3, none⟩ = some d ∧ W.cell? ⟨g, 4, none⟩ = some e ∧ W.cell? ⟨g, 5, none⟩ = some f ∧ ∀ j, W.frozen? ⟨g, j, none⟩ = false :=
  ⟨cell_of_row W g 0 _ t (0, 0) h, cell_of_row W g 1 _ t (0, 0) h, cell_of_row W g 2 _ t (0, 0) h, cell_of_row W g 3 _ t (0, 0) h, cell_of_row W g 4 _ t (0, 0) h, cell_of_row W g 5 _ t (0, 0) h, fun j => frozen_of_row W g j _ t h⟩
set_option maxHeartbeats 400000 in
theorem szPart_c (p : Pu.PartD) (s t : Value) (left : Int) (w : World) (hw : CoreD.wf p.core) (hs : RdCells w s p.core.cells) (ht : RdLayers w t p.layers) (h0 : 0 ≤ left) (h1 : left ≤ 1048576) :
    Calls Try.prog 28 #[partV p s t, .int .i64 left] w fun e w' => e = .returned (.int .i64 (Pu.szPart p left)) ∧ Below w.heap.size w w' := by
  have HS := hide hs
  have HT := hide ht
  have HW := hide hw
  clear hs ht hw
  unfold partV
  by_cases hc : (p.core.kind.size + p.core.cells.length + Pu.tot (p.core.cells.map (·.key)) : Int) ≤ left
  · have hsz : Hid (Pu.szCore p.core left = left - (p.core.kind.size + p.core.cells.length + Pu.tot (p.core.cells.map (·.key)))) := by rw [Hid, Pu.szCore, if_pos hc]
    obtain ⟨L, hL⟩ : ∃ L : Int, L = left - (p.core.kind.size + p.core.cells.length + Pu.tot (p.core.cells.map (·.key))) := ⟨_, rfl⟩
    rw [← hL] at hsz
    have hL0 : 0 ≤ L := by omega
    have hL1 : L ≤ 1048576 := by omega
    have HP : Hid (Pu.szPart p left = Pu.szStr (p.layers.map (·.name)) L) := by
      rw [Hid, Pu.szPart, Pu.szStr, List.length_map]
      unfold Pu.totPart Pu.totCore
      by_cases h : (p.layers.length + Pu.tot (p.layers.map (·.name)) : Int) ≤ L
      · rw [if_pos (by omega), if_pos h]; omega
      · rw [if_neg (by omega), if_neg h]
    clear hL
    rw [HP.out]
    go_enter Try.func28, Try.ntmps28
    go_wp2_with fail
    refine (szCore_c p.core s left _ HW.out (RdCells.below HS.out (below_alloc (Below.refl _ _) _)) h0 h1).mono ?_; rintro e w1 ⟨rfl, hb1⟩
    rw [hsz.out]
    obtain ⟨a0, a1, a2, a3, a4, a5, af⟩ := six_cells ((hb1.block w.heap.size (by simp)).trans (heap_new rfl))
    have HB : Below w.heap.size w w1 := (below_alloc (Below.refl _ _) _).trans (hb1.mono (by simp))
    clear hb1
    go_wp2_with fail
    refine (szLayerS_c t p.layers L _ (RdLayers.below HT.out HB) hL0 hL1).mono ?_; rintro e w2 ⟨rfl, hb2⟩
    by_cases hq : Pu.szStr (p.layers.map (·.name)) L < 0
    · have HQ : Hid (Pu.szStr (p.layers.map (·.name)) L = -1) := by
        rw [Hid]
        unfold Pu.szStr at hq ⊢
        split at hq
        · omega
        · rw [if_neg (by assumption)]
      go_wp2
      go_ret
      exact ⟨ret_int HQ.out.symm, below_then HB hb2⟩
    · go_wp2
      go_ret
      exact ⟨rfl, below_then HB hb2⟩
  · have hsz : Hid (Pu.szCore p.core left = -1) := by rw [Hid, Pu.szCore, if_neg hc]
    go_enter Try.func28, Try.ntmps28
    go_wp2_with fail
    refine (szCore_c p.core s left _ HW.out (RdCells.below HS.out (below_alloc (Below.refl _ _) _)) h0 h1).mono ?_; rintro e w1 ⟨rfl, hb1⟩
    rw [hsz.out]
    go_wp2
    go_ret
    exact ⟨ret_int (by rw [Pu.szPart, if_neg (by unfold Pu.totPart Pu.totCore; omega)]), (below_alloc (Below.refl _ _) _).trans (hb1.mono (by simp))⟩
def Pu.partKey (p : Pu.PartD) : (List UInt8 × Bool × Bool × List (List UInt8 × Int) × Int) × List (List UInt8 × Int) := (Pu.coreKey p.core, p.layers.map (fun c => (c.name.toList, c.count)))
set_option maxHeartbeats 400000 in
theorem eqPart_c (p q : Pu.PartD) (s t s' t' : Value) (w : World) (hpq : Pu.partKey p = Pu.partKey q) (hs : RdL w 2 cellEn s p.core.cells) (ht : RdL w 2 layerEn t p.layers) (hs' : RdL w 2 cellEn s' q.core.cells) (ht' : RdL w 2 layerEn t' q.layers) :
    Calls Try.prog 31 #[partV p s t, partV q s' t'] w fun e w' => e = .returned (.bool true) ∧ Below w.heap.size w w' := by
  simp only [Pu.partKey, Prod.mk.injEq] at hpq
  obtain ⟨h1, h2⟩ := hpq
  have H1 := hide h1
  have H2 := hide h2
  clear h1 h2
  unfold partV
  go_enter Try.func31, Try.ntmps31
  go_wp2_with fail
  refine (eqCore_c p.core q.core s s' _ H1.out (RdL.below hs (below_alloc (below_alloc (Below.refl _ _) _) _) (Nat.le_refl _)) (RdL.below hs' (below_alloc (below_alloc (Below.refl _ _) _) _) (Nat.le_refl _))).mono ?_; rintro e w1 ⟨rfl, hb1⟩
  obtain ⟨a0, a1, a2, a3, a4, a5, af⟩ := six_cells ((hb1.block w.heap.size (by simp; omega)).trans (heap_old (by simp) (heap_new rfl)))
  obtain ⟨b0, b1, b2, b3, b4, b5, bf⟩ := six_cells ((hb1.block (w.heap.size + 1) (by simp)).trans (heap_new (by simp)))
  have HB : Below w.heap.size w w1 := (below_alloc (below_alloc (Below.refl _ _) _) _).trans (hb1.mono (by simp; omega))
  clear hb1
  go_wp2_with fail
  refine (eqLayerS_c _ _ _ _ H2.out _ (RdL.below ht HB (Nat.le_refl _)) (RdL.below ht' HB (Nat.le_refl _))).mono ?_; rintro e w2 ⟨rfl, hb2⟩
  go_wp2_with fail
  go_ret
  exact ⟨rfl, below_then HB hb2⟩
set_option maxHeartbeats 1000000 in
theorem toPart_c (p : Pu.PartD) (s t : Value) (w : World) (hs : RdL w 2 cellEn s p.core.cells) (hl : p.core.cells.length ≤ 1048576) (ht : RdL w 2 layerEn t p.layers) (hl' : p.layers.length ≤ 1048576) :
    Calls Try.prog 30 #[partV p s t] w fun e w' => ∃ s' t', e = .returned (partV p s' t') ∧ OwnL w' w.heap.size 96 2 cellEn s' p.core.cells ∧ OwnL w' w.heap.size 72 2 layerEn t' p.layers ∧ (s'.ownBlock = none ∨ s'.ownBlock ≠ t'.ownBlock) ∧ Below w.heap.size w w' := by
  unfold partV
  go_enter Try.func30, Try.ntmps30
  go_wp2_with fail
  refine (toCore_c p.core s _ (RdL.below hs (below_alloc (below_alloc (below_alloc (Below.refl _ _) _) _) _) (Nat.le_refl _)) hl).mono ?_; rintro e w1 ⟨s', rfl, ho, hb1⟩
  obtain ⟨A', c', rfl⟩ := ho.shape
  have y2 := hide ((hb1.block (w.heap.size + 1 + 1) (by simp)).trans (heap_new (by simp)))
  have y0 := hide ((hb1.block w.heap.size (by simp; omega)).trans (heap_old (by simp; omega) (heap_old (by simp) (heap_new rfl))))
  have y1 := hide ((hb1.block (w.heap.size + 1) (by simp)).trans (heap_old (by simp) (heap_new (by simp))))
  have hs1 : w.heap.size + 1 + 1 < w1.heap.size := by have := hb1.size; simp at this; omega
  have HB : Below w.heap.size w w1 := (below_alloc (below_alloc (below_alloc (Below.refl _ _) _) _) _).trans (hb1.mono (by simp; omega))
  have HO := hide (show OwnL w1 (w.heap.size + 1 + 1 + 1) _ _ _ _ _ by simpa using ho)
  obtain ⟨a0, a1, a2, a3, a4, a5, af⟩ := six_cells y0.out
  obtain ⟨b0, b1, b2, b3, b4, b5, bf⟩ := six_cells y1.out
  obtain ⟨c0, c1, c2, c3, c4, c5, cf⟩ := six_cells y2.out
  clear ho hb1
  unfold coreV
  go_wp2_with fail
  obtain ⟨wA, hwA⟩ : ∃ wA, Hid ((((((w1.setCell ⟨w.heap.size + 1 + 1, 0, none⟩ (.string p.core.kind)).setCell ⟨w.heap.size + 1 + 1, 1, none⟩ (.bool p.core.on)).setCell ⟨w.heap.size + 1 + 1, 2, none⟩ (.bool p.core.broken)).setCell ⟨w.heap.size + 1 + 1, 3, none⟩ (.slice A' p.core.cells.length c')).setCell ⟨w.heap.size + 1 + 1, 4, none⟩ (.int .i64 p.core.count)) = wA) := ⟨_, rfl⟩
  have z2 : wA.heap[w.heap.size + 1 + 1]? = some (.cells #[.string p.core.kind, .bool p.core.on, .bool p.core.broken, .slice A' p.core.cells.length c', .int .i64 p.core.count, .slice none 0 0] 37 (0, 0)) := by
    rw [← hwA.out]
    exact Joins.block_setCell (Joins.block_setCell (Joins.block_setCell (Joins.block_setCell (Joins.block_setCell y2.out _) _) _) _) _
  have z1 : wA.heap[w.heap.size + 1]? = some (.cells #[.string ByteArray.empty, .bool false, .bool false, .slice none 0 0, .int .i64 0, .slice none 0 0] 37 (0, 0)) := by
    rw [← hwA.out]
    iterate 5 rw [Below.heap_setCell _ _ _ _ (by simp)]
    exact y1.out
  have hsA : w.heap.size + 1 + 1 < wA.heap.size := by rw [← hwA.out]; simpa using hs1
  have BA : Below w.heap.size w wA := by
    rw [← hwA.out]
    exact ((((HB.setCell (by simp <;> omega) _).setCell (by simp <;> omega) _).setCell (by simp <;> omega) _).setCell (by simp <;> omega) _).setCell (by simp <;> omega) _
  have OA : OwnL wA (w.heap.size + 1 + 1 + 1) 96 2 cellEn (.slice A' p.core.cells.length c') p.core.cells := by
    have HO' := HO.out
    rw [← hwA.out]
    iterate 5 refine OwnL.set ?_ (by simp <;> omega) _
    exact HO'
  rw [hwA.out]
  clear hwA y0 y1 y2 HB HO hs1 a0 a1 a2 a3 a4 a5 af b0 b1 b2 b3 b4 b5 bf c0 c1 c2 c3 c4 c5 cf
  refine (toLayerS_c t p.layers wA (RdL.below ht BA (Nat.le_refl _)) hl').mono ?_; rintro e w2 ⟨t', rfl, ho2, hb2⟩
  have x2 := (hb2.block (w.heap.size + 1 + 1) hsA).trans z2
  have x1 := (hb2.block (w.heap.size + 1) (by omega)).trans z1
  have O2 := OwnL.below OA hb2 (Nat.le_refl _)
  have hdis : (Value.slice A' p.core.cells.length c').ownBlock = none ∨ (Value.slice A' p.core.cells.length c').ownBlock ≠ t'.ownBlock := OwnL.apart OA ho2 (Nat.le_refl _)
  obtain ⟨B', d', rfl⟩ := ho2.shape
  have hs2 : w.heap.size + 1 + 1 < w2.heap.size := by have := hb2.size; omega
  have B2 := below_then BA hb2
  obtain ⟨b0, b1, b2, b3, b4, b5, bf⟩ := six_cells x1
  obtain ⟨c0, c1, c2, c3, c4, c5, cf⟩ := six_cells x2
  have HO2 := hide O2
  have HP2 := hide ho2
  have HD := hide hdis
  clear hb2 O2 ho2 OA hdis x1 x2 z1 z2
  go_wp2_with fail
  have HB2 := ((((((B2.setCell (p := ⟨w.heap.size + 1 + 1, 5, none⟩) (by simp <;> omega) (Value.slice B' p.layers.length d')).setCell (p := ⟨w.heap.size + 1, 0, none⟩) (by simp) (Value.string p.core.kind)).setCell (p := ⟨w.heap.size + 1, 1, none⟩) (by simp) (Value.bool p.core.on)).setCell (p := ⟨w.heap.size + 1, 2, none⟩) (by simp) (Value.bool p.core.broken)).setCell (p := ⟨w.heap.size + 1, 3, none⟩) (by simp) (Value.slice A' p.core.cells.length c')).setCell (p := ⟨w.heap.size + 1, 4, none⟩) (by simp) (Value.int .i64 p.core.count)).setCell (p := ⟨w.heap.size + 1, 5, none⟩) (by simp) (Value.slice B' p.layers.length d')
  refine bodyPost_ret (v := .agg #[.string p.core.kind, .bool p.core.on, .bool p.core.broken, .slice A' p.core.cells.length c', .int .i64 p.core.count, .slice B' p.layers.length d']) (by simp [results, Try.results30, go_sem, b0, b1, b2, b3, b4, b5]) rfl ⟨_, _, rfl, ?_, ?_, HD.out, HB2⟩
  · refine OwnL.mono (b' := w.heap.size) (base := w.heap.size + 1 + 1 + 1) ?_ (by omega)
    have HO' := HO2.out
    iterate 7 refine OwnL.set ?_ (by simp <;> omega) _
    exact HO'
  · refine OwnL.mono (b' := w.heap.size) (base := wA.heap.size) ?_ (by omega)
    have HO' := HP2.out
    iterate 7 refine OwnL.set ?_ (by simp <;> omega) _
    exact HO'
end Go.Proofs.Ytplcdnahiimenaa
