/- Contracts: cores. -/
import Derived.Test.YtplcdnahiimenaaCells
import Derived.Test.YtplcdnahiimenaaCellH
import Derived.Test.YtplcdnahiimenaaKind
import Derived.Test.YtplcdnahiimenaaPure2
import Derived.Test.YtplcdnahiimenaaFace
import Derived.Test.YtplcdnahiimenaaMem2
import Derived.Deep.RegionHeld3
namespace Go.Proofs.Ytplcdnahiimenaa
open Go.ChangeShapes Go.WideShapes Go.ChangeAt Go.RowKit
set_option maxRecDepth 100000
def coreV (p : Pu.CoreD) (s : Value) : Value := .agg #[.string p.kind, .bool p.on, .bool p.broken, s, .int .i64 p.count]
def CoreD.wf (p : Pu.CoreD) : Prop := p.kind.size ≤ maxLen ∧ (Lit.int .i64 p.count).wf = true
def RdCore (w : World) (v : Value) (p : Pu.CoreD) : Prop := CoreD.wf p ∧ ∃ s, v = coreV p s ∧ RdCells w s p.cells
theorem szCore_c (p : Pu.CoreD) (s : Value) (left : Int) (w : World) (hw : CoreD.wf p) (hs : RdCells w s p.cells) (h0 : 0 ≤ left) (h1 : left ≤ 1048576) :
    Calls Try.prog 54 #[coreV p s, .int .i64 left] w fun e w' => e = .returned (.int .i64 (Pu.szCore p left)) ∧ Below w.heap.size w w' := by
  obtain ⟨hk, _⟩ := hw
  unfold maxLen at hk
  unfold coreV
  by_cases hkl : (p.kind.size : Int) ≤ left
  · go_enter Try.func54, Try.ntmps54
    go_wp2_with fail
    refine (szCellS_c _ _ _ _ (RdCells.below hs (below_alloc (Below.refl _ _) _)) (by omega) (by omega)).mono ?_; rintro e w1 ⟨rfl, hb1⟩
    have HZ : Hid (Pu.szStr (p.cells.map (·.key)) (left - p.kind.size) = Pu.szCore p left) := by
      rw [Hid, Pu.szStr, Pu.szCore, List.length_map]
      by_cases h : (p.cells.length + Pu.tot (p.cells.map (·.key)) : Int) ≤ left - p.kind.size
      · rw [if_pos h, if_pos (by omega)]; omega
      · rw [if_neg h, if_neg (by omega)]
    rw [HZ.out]
    by_cases hq : Pu.szCore p left < 0
    · have HQ : Hid (Pu.szCore p left = -1) := by
        rw [Hid]
        have h2 := hq
        unfold Pu.szCore at h2 ⊢
        split at h2
        · omega
        · rw [if_neg (by assumption)]
      go_wp2
      go_ret
      exact ⟨ret_int HQ.out.symm, (below_alloc (Below.refl _ _) _).trans (hb1.mono (by simp))⟩
    · go_wp2
      go_ret
      exact ⟨rfl, (below_alloc (Below.refl _ _) _).trans (hb1.mono (by simp))⟩
  · go_enter Try.func54, Try.ntmps54
    go_wp2_with fail
    go_ret
    exact ⟨ret_int (by rw [Pu.szCore, if_neg (by omega)]), below_alloc (Below.refl _ _) _⟩
set_option maxHeartbeats 400000 in
theorem toCore_c (p : Pu.CoreD) (s : Value) (w : World) (hs : RdL w 2 cellEn s p.cells) (hl : p.cells.length ≤ 1048576) :
    Calls Try.prog 58 #[coreV p s] w fun e w' => ∃ s', e = .returned (coreV p s') ∧ OwnL w' w.heap.size 96 2 cellEn s' p.cells ∧ Below w.heap.size w w' := by
  unfold coreV
  go_enter Try.func58, Try.ntmps58
  go_wp2_with fail
  refine (toCellS_c _ _ _ (RdL.below hs (below_alloc (below_alloc (below_alloc (Below.refl _ _) _) _) _) (Nat.le_refl _)) hl).mono ?_; rintro e w1 ⟨s', rfl, ho, hb1⟩
  obtain ⟨A', c', rfl⟩ := ho.shape
  obtain ⟨a0, a1, a2, a3, a4, af⟩ := five_cells ((hb1.block (w.heap.size + 1 + 1) (by simp)).trans (heap_new (by simp)))
  obtain ⟨b0, b1, b2, b3, b4, bf⟩ := five_cells ((hb1.block w.heap.size (by simp; omega)).trans (heap_old (by simp; omega) (heap_old (by simp) (heap_new rfl))))
  obtain ⟨c0, c1, c2, c3, c4, cf⟩ := five_cells ((hb1.block (w.heap.size + 1) (by simp)).trans (heap_old (by simp) (heap_new (by simp))))
  have hs1 : w.heap.size + 1 + 1 < w1.heap.size := by have := hb1.size; simp at this; omega
  have HO := hide ho
  have HB : Below w.heap.size w w1 := (below_alloc (below_alloc (below_alloc (Below.refl _ _) _) _) _).trans (hb1.mono (by simp; omega))
  clear ho hb1
  go_wp2_with fail
  have HB2 := ((((((HB.setCell (p := ⟨w.heap.size + 1 + 1, 3, none⟩) (by simp <;> omega) (Value.slice A' p.cells.length c')).setCell (p := ⟨w.heap.size + 1 + 1, 4, none⟩) (by simp <;> omega) (Value.int .i64 p.count)).setCell (p := ⟨w.heap.size + 1, 0, none⟩) (by simp) (Value.string p.kind)).setCell (p := ⟨w.heap.size + 1, 1, none⟩) (by simp) (Value.bool p.on)).setCell (p := ⟨w.heap.size + 1, 2, none⟩) (by simp) (Value.bool p.broken)).setCell (p := ⟨w.heap.size + 1, 3, none⟩) (by simp) (Value.slice A' p.cells.length c')).setCell (p := ⟨w.heap.size + 1, 4, none⟩) (by simp) (Value.int .i64 p.count)
  refine bodyPost_ret (v := .agg #[.string p.kind, .bool p.on, .bool p.broken, .slice A' p.cells.length c', .int .i64 p.count]) (by simp [results, Try.results58, go_sem, c0, c1, c2, c3, c4]) rfl ⟨_, rfl, ?_, HB2⟩
  refine OwnL.mono (b' := w.heap.size) (base := w.heap.size + 1 + 1 + 1) ?_ (by omega)
  have HO' := HO.out
  simp at HO'
  iterate 7 refine OwnL.set ?_ (by simp <;> omega) _
  exact HO'
end Go.Proofs.Ytplcdnahiimenaa
