/- Contracts of the laws' own helpers: the marks of cores and parts. -/
import Derived.Test.YtplcdnahiimenaaCore
import Derived.Test.YtplcdnahiimenaaMarkC
namespace Go.Proofs.Ytplcdnahiimenaa
open Go.ChangeShapes Go.WideShapes Go.ChangeAt Go.RowKit
set_option maxRecDepth 100000
set_option maxRecDepth 100000 in
theorem markCore_c (p : Pu.CoreD) (s : Value) (l : List Pu.CellD) (k : Int) (base : Nat) (w : World) (h : OwnL w base 96 2 cellEn s l) (hk0 : 1 ≤ k) (hk1 : k ≤ 4294967296) (hl : l.length ≤ 4294967296) :
    Calls Try.prog 62 #[coreV p s, .int .i64 k] w fun e w' => e = .returned (.int .i64 (k + 2 * l.length)) ∧ OwnL w' base 96 2 cellEn s (Pu.gen (Pu.gC k) l.length) ∧ w.grownBy w' s.ownBlock := by
  have HS := hide h
  have h2 : OwnL (w.alloc (.cells #[.string p.kind, .bool p.on, .bool p.broken, s, .int .i64 p.count] 34)) base 96 2 cellEn s l := OwnL.below h (below_alloc (Below.refl _ _) _) (Nat.le_refl _)
  have H2 := hide h2
  have HG := hide (grown_of (w := w) (w' := w.alloc (.cells #[.string p.kind, .bool p.on, .bool p.broken, s, .int .i64 p.count] 34)) (below_alloc (Below.refl _ _) _) s.ownBlock)
  clear h h2
  unfold coreV
  go_enter Try.func62, Try.ntmps62
  go_wp2_with fail
  refine (markCellS_c s l k base _ H2.out hk0 hk1 hl).mono ?_; rintro e w1 ⟨rfl, ho, hg⟩
  go_wp2
  go_ret
  exact ⟨rfl, ho, grown_trans HG.out hg⟩
set_option maxRecDepth 100000 in
theorem heldCore_c (p : Pu.CoreD) (s : Value) (n : Nat) (k : Int) (w : World) (h : RdL w 2 cellEn s (Pu.gen (Pu.gC k) n)) (hk0 : 1 ≤ k) (hk1 : k ≤ 4294967296) (hl : n ≤ 4294967296) :
    Calls Try.prog 64 #[coreV p s, .int .i64 k] w fun e w' => e = .returned (.int .i64 (k + 2 * n)) ∧ Below w.heap.size w w' := by
  have HS := hide h
  clear h
  unfold coreV
  have hkn : ¬ (k + 2 * (n : Int)) < 0 := by omega
  go_enter Try.func64, Try.ntmps64
  go_wp2_with fail
  refine (heldCellS_c s n k _ (RdL.below HS.out (below_alloc (Below.refl _ _) _) (Nat.le_refl _)) hk0 hk1 hl).mono ?_; rintro e w1 ⟨rfl, hb1⟩
  go_wp2
  go_ret
  exact ⟨rfl, (below_alloc (Below.refl _ _) _).trans (hb1.mono (by simp))⟩
end Go.Proofs.Ytplcdnahiimenaa
