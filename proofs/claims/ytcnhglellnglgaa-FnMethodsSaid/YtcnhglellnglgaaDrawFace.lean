/- Contracts: drawn faces. -/
import Derived.Test.YtcnhglellnglgaaDraw
import Derived.Test.YtcnhglellnglgaaFace
namespace Go.Proofs.Ytcnhglellnglgaa
open Go.ChangeShapes Go.WideShapes Go.ChangeAt Go.RowKit
set_option maxRecDepth 100000
theorem made_bd (a b how : Int) : 0 ≤ Pu.made a b how ∧ Pu.made a b how ≤ 63 := by
  unfold Pu.made
  have := Pu.acc_bd (Pu.hows how) a b (k := 6) (by omega)
  split <;> omega
theorem drawOffers_c (v : Value) (l : List UInt8) (w : World) (hv : RdL w 1 byteEn v l) (hl : l.length ≤ 4096) :
    Calls Try.prog 16 #[v] w fun e w' => ∃ x y : Int, e = .returned (.tuple #[.int .i64 x, .int .i64 y]) ∧ (Lit.int .i64 x).wf = true ∧ (Lit.int .i64 y).wf = true ∧ Below w.heap.size w w' := by
  go_enter Try.func16, Try.ntmps16
  go_wp2_with fail
  refine (l1New_c _ _ _ hv hl).mono ?_; rintro e w1 ⟨g, rfl, hg0, hg1, hc1, hb1⟩
  go_wp2_with fail
  refine (l2Any_c _ _ _ hc1 hg1).mono ?_; rintro e w2 ⟨x, rfl, hx, hc2, hgr2⟩
  have hg2 := Nat.lt_of_lt_of_le hg1 hgr2.size
  go_wp2_with fail
  refine (l1Once_c _ _ _ _ hc2 (by omega)).mono ?_; rintro e w3 ⟨b, rfl, hc3, hgr3⟩
  have hg3 := Nat.lt_of_lt_of_le hg2 hgr3.size
  cases b
  · go_wp2_with fail
    refine (l2Any_c _ _ _ hc3 hg3).mono ?_; rintro e w4 ⟨y, rfl, hy, hc4, hgr4⟩
    go_wp2_with fail
    go_ret2
    exact ⟨x, y, rfl, hx, hy, hb1.grown (grown_trans (grown_trans hgr2 hgr3) hgr4) hb1.size (fun k hk => by cases hk; exact hg0)⟩
  · go_wp2_with fail
    refine (sIsFace_c _ _).mono ?_; rintro e w' ⟨rfl, rfl⟩
    rcases hf : Pu.faceB x with _ | _
    · go_wp2_with fail
      refine (l2Any_c _ _ _ hc3 hg3).mono ?_; rintro e w4 ⟨y, rfl, hy, hc4, hgr4⟩
      go_wp2_with fail
      go_ret2
      exact ⟨x, y, rfl, hx, hy, hb1.grown (grown_trans (grown_trans hgr2 hgr3) hgr4) hb1.size (fun k hk => by cases hk; exact hg0)⟩
    · go_wp2_with fail
      go_outline
      refine (l2Face_c _ _ _ hc3).mono ?_; rintro e w4 ⟨y, rfl, hy0, hy1, hc4, hgr4⟩
      go_wp2_with fail
      refine (sBothFaces_c _ _ _).mono ?_; rintro e w' ⟨rfl, rfl⟩
      go_wp2_with fail
      go_ret2
      obtain ⟨hm0, hm1⟩ := made_bd x y 0
      exact ⟨x, _, rfl, hx, WalkArith.wf_i64 (by omega), hb1.grown (grown_trans (grown_trans hgr2 hgr3) hgr4) hb1.size (fun k hk => by cases hk; exact hg0)⟩
end Go.Proofs.Ytcnhglellnglgaa
