/- Contracts: cores, 2. -/
import Derived.Test.YtpenhmglegmclaaCells
import Derived.Test.YtpenhmglegmclaaCellH
import Derived.Test.YtpenhmglegmclaaKind
import Derived.Test.YtpenhmglegmclaaPure2
import Derived.Test.YtpenhmglegmclaaFace
import Derived.Test.YtpenhmglegmclaaMem2
import Derived.Deep.RegionHeld3
import Derived.Test.YtpenhmglegmclaaCore
namespace Go.Proofs.Ytpenhmglegmclaa
open Go.ChangeShapes Go.WideShapes Go.ChangeAt Go.RowKit
theorem eqCore_c (p q : Pu.CoreD) (s t : Value) (w : World) (hpq : Pu.coreKey p = Pu.coreKey q) (hs : RdL w 2 cellEn s p.cells) (ht : RdL w 2 cellEn t q.cells) :
    Calls Try.prog 48 #[coreV p s, coreV q t] w fun e w' => e = .returned (.bool true) ∧ Below w.heap.size w w' := by
  simp only [Pu.coreKey, Prod.mk.injEq] at hpq
  obtain ⟨h1, h2, h3, h4, h5⟩ := hpq
  unfold coreV
  rw [h2, h3, h5]
  have hk' : (p.kind.toList == q.kind.toList) = true := by simp [h1]
  have H4 := hide h4
  clear h1 h2 h3 h4 h5
  go_enter Try.func48, Try.ntmps48
  go_wp2_with fail
  refine (eqCellS_c _ _ _ _ H4.out _ (RdL.below hs (below_alloc (below_alloc (Below.refl _ _) _) _) (Nat.le_refl _)) (RdL.below ht (below_alloc (below_alloc (Below.refl _ _) _) _) (Nat.le_refl _))).mono ?_; rintro e w1 ⟨rfl, hb1⟩
  obtain ⟨a0, a1, a2, a3, a4, af⟩ := five_cells ((hb1.block w.heap.size (by simp; omega)).trans (heap_old (by simp) (heap_new rfl)))
  obtain ⟨b0, b1, b2, b3, b4, bf⟩ := five_cells ((hb1.block (w.heap.size + 1) (by simp)).trans (heap_new (by simp)))
  have HB : Below w.heap.size w w1 := (below_alloc (below_alloc (Below.refl _ _) _) _).trans (hb1.mono (by simp; omega))
  clear hb1
  go_wp2_with fail
  go_ret
  exact ⟨rfl, HB⟩
end Go.Proofs.Ytpenhmglegmclaa
