/- Contracts of the laws' own helpers: the marks of parts. -/
import Derived.Test.YtplcdnahiimenaaPart
import Derived.Test.YtplcdnahiimenaaMarkP
import Derived.Test.YtplcdnahiimenaaMarkL
namespace Go.Proofs.Ytplcdnahiimenaa
open Go.ChangeShapes Go.WideShapes Go.ChangeAt Go.RowKit
set_option maxRecDepth 100000
theorem own_not {s t : Value} (h : s.ownBlock = none ∨ s.ownBlock ≠ t.ownBlock) : t.ownBlock = none ∨ t.ownBlock ≠ s.ownBlock := by
  rcases h with h | h
  · rw [h]; rcases t.ownBlock with _ | g
    · exact .inl rfl
    · exact .inr (by simp)
  · exact .inr (fun e => h e.symm)
set_option maxHeartbeats 400000 in
set_option maxRecDepth 100000 in
theorem markPart_c (p : Pu.PartD) (s t : Value) (l : List Pu.CellD) (m : List Pu.LayerD) (k : Int) (base C : Nat) (w : World) (h : OwnL w base 96 2 cellEn s l) (h' : OwnL w base 72 2 layerEn t m) (hd : s.ownBlock = none ∨ s.ownBlock ≠ t.ownBlock)
    (hC : ∀ g, s.ownBlock = some g ∨ t.ownBlock = some g → g < C) (hCw : C ≤ w.heap.size) (hk0 : 1 ≤ k) (hk1 : k ≤ 16777216) (hl : l.length ≤ 16777216) (hm : m.length ≤ 16777216) :
    Calls Try.prog 32 #[partV p s t, .int .i64 k] w fun e w' => e = .returned (.int .i64 (k + 2 * l.length + 2 * m.length)) ∧ OwnL w' base 96 2 cellEn s (Pu.gen (Pu.gC k) l.length) ∧ OwnL w' base 72 2 layerEn t (Pu.gen (Pu.gL (k + 2 * l.length)) m.length) ∧ Within base C w w' := by
  have hb0 : Below w.heap.size w (w.alloc (.cells #[.string p.core.kind, .bool p.core.on, .bool p.core.broken, s, .int .i64 p.core.count, t] 37)) := below_alloc (Below.refl _ _) _
  have H1 := hide (OwnL.below h hb0 (Nat.le_refl _))
  have H2 := hide (OwnL.below h' hb0 (Nat.le_refl _))
  have HW := hide (Within.of hb0 base C)
  have HC := hide hC
  have HD := hide hd
  clear h h' hb0 hC hd
  unfold partV
  go_enter Try.func32, Try.ntmps32
  go_wp2_with fail
  refine (markCore_c p.core s l k base _ H1.out hk0 (by omega) (by omega)).mono ?_; rintro e w1 ⟨rfl, ho, hg⟩
  have Y := (hg.block w.heap.size (by simp) (fun e => by have := HC.out _ (.inl e.symm); omega)).trans (heap_new rfl)
  obtain ⟨_, _, _, _, _, _, _⟩ := six_cells Y
  have HW1 := hide (HW.out.trans (grown_within H1.out hg (.inr fun g e => HC.out g (.inl e))))
  have H3 := hide (OwnL.kept H2.out hg (own_not HD.out))
  have H4 := hide ho
  clear ho hg Y
  go_wp2_with fail
  refine (markLayerS_c t m _ base _ H3.out (by omega) (by omega) (by omega)).mono ?_; rintro e w2 ⟨rfl, ho, hg⟩
  go_wp2
  go_ret
  exact ⟨rfl, OwnL.kept H4.out hg HD.out, ho, HW1.out.trans (grown_within H3.out hg (.inr fun g e => HC.out g (.inr e)))⟩
set_option maxRecDepth 100000 in
theorem heldPart_c (p : Pu.PartD) (s t : Value) (n m : Nat) (k : Int) (w : World) (h : RdL w 2 cellEn s (Pu.gen (Pu.gC k) n)) (h' : RdL w 2 layerEn t (Pu.gen (Pu.gL (k + 2 * n)) m)) (hk0 : 1 ≤ k) (hk1 : k ≤ 16777216) (hl : n ≤ 16777216) (hm : m ≤ 16777216) :
    Calls Try.prog 33 #[partV p s t, .int .i64 k] w fun e w' => e = .returned (.int .i64 (k + 2 * n + 2 * m)) ∧ Below w.heap.size w w' := by
  have HS := hide h
  have HT := hide h'
  clear h h'
  unfold partV
  have hkn : ¬ (k + 2 * (n : Int)) < 0 := by omega
  have hkm : ¬ (k + 2 * (n : Int) + 2 * m) < 0 := by omega
  go_enter Try.func33, Try.ntmps33
  go_wp2_with fail
  refine (heldCore_c p.core s n k _ (RdL.below HS.out (below_alloc (Below.refl _ _) _) (Nat.le_refl _)) hk0 (by omega) (by omega)).mono ?_; rintro e w1 ⟨rfl, hb1⟩
  obtain ⟨_, _, _, _, _, _, _⟩ := six_cells ((hb1.block w.heap.size (by simp)).trans (heap_new rfl))
  have HB : Below w.heap.size w w1 := (below_alloc (Below.refl _ _) _).trans (hb1.mono (by simp))
  clear hb1
  go_wp2_with fail
  refine (heldLayerS_c t m _ _ (RdL.below HT.out HB (Nat.le_refl _)) (by omega) (by omega) (by omega)).mono ?_; rintro e w2 ⟨rfl, hb2⟩
  go_wp2
  go_ret
  exact ⟨rfl, below_then HB hb2⟩
end Go.Proofs.Ytplcdnahiimenaa
