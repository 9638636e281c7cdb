/- Contracts: drawn numbers and their texts. -/
import Derived.Test.YtfmjcmhofjibmaaDoorDrawOdd
import Derived.Test.YtfmjcmhofjibmaaDoorParseNum
namespace Go.Proofs.YtfmjcmhofjibmaaDoor
open Go.ChangeShapes Go.WideShapes Go.ChangeAt Go.RowKit
set_option maxRecDepth 100000
theorem Pu.numB_size {n : Int} (h0 : -9223372036854775808 ≤ n) (h1 : n ≤ 9223372036854775807) : (Pu.numB n).size ≤ 20 := by
  have := Pu.itoa_len h0 h1
  have e : (Pu.numB n).size = (Lib.itoa n).length := rfl
  omega
theorem drawFormatNumber_c (v : Value) (l : List UInt8) (w : World) (hv : RdL w 1 byteEn v l) (hl : l.length ≤ 4096) :
    Calls Tryd.prog 27 #[v] w fun e w' => ∃ x : Int, e = .returned (.int .i64 x) ∧ (Lit.int .i64 x).wf = true ∧ Below w.heap.size w w' := by
  go_enter Tryd.func27, Tryd.ntmps27
  go_wp2_with fail
  refine (l1New_c _ _ _ hv hl).mono ?_; rintro e w1 ⟨g, rfl, hg0, hg1, hc1, hb1⟩
  go_wp2_with fail
  refine (l1Once_c _ _ _ _ hc1 (by omega)).mono ?_; rintro e w2 ⟨b, rfl, hc2, hgr2⟩
  have hgs2 : g < w2.heap.size := Nat.lt_of_lt_of_le hg1 hgr2.size
  cases b
  · go_wp2_with fail
    refine (l1Below_c _ _ _ _ hc2 (by omega)).mono ?_; rintro e w3 ⟨x, rfl, hx0, hx1, hc3, hgr3⟩
    have := hx1 (by omega)
    go_wp2_with fail
    go_ret
    exact ⟨_, rfl, WalkArith.wf_i64 (by omega), hb1.grown (grown_trans hgr2 hgr3) hb1.size (fun k hk => by cases hk; exact hg0)⟩
  · go_wp2_with fail
    refine (l1Odd_c _ _ _ hc2 hgs2).mono ?_; rintro e w3 ⟨x, rfl, hx, hc3, hgr3⟩
    go_wp2_with fail
    go_ret
    exact ⟨x, rfl, hx, hb1.grown (grown_trans hgr2 hgr3) hb1.size (fun k hk => by cases hk; exact hg0)⟩
set_option maxHeartbeats 1000000 in
theorem drawParseNumber_c (v : Value) (l : List UInt8) (w : World) (hv : RdL w 1 byteEn v l) (hl : l.length ≤ 4096) :
    Calls Tryd.prog 28 #[v] w fun e w' => ∃ s : ByteArray, e = .returned (.string s) ∧ s.size ≤ 64 ∧ Below w.heap.size w w' := by
  go_enter Tryd.func28, Tryd.ntmps28
  go_wp2_with fail
  refine (l1New_c _ _ _ hv hl).mono ?_; rintro e w1 ⟨g, rfl, hg0, hg1, hc1, hb1⟩
  go_wp2_with fail
  refine (l1Below_c _ _ _ _ hc1 (by omega)).mono ?_; rintro e w2 ⟨f, rfl, hf0, hf1, hc2, hgr2⟩
  have hf2 := hf1 (by omega)
  have hgs2 : g < w2.heap.size := Nat.lt_of_lt_of_le hg1 hgr2.size
  go_wp2_with fail
  refine (sFormatNumber_c _ _ (by omega) (by omega)).mono ?_; rintro e w3 ⟨rfl, b3⟩
  have hc3 := hc2.kept b3 hgs2
  have hgr3 := grown_below hgr2 b3
  have hz := Pu.numB_size (n := f) (by omega) (by omega)
  generalize Pu.numB f = s at hz ⊢
  go_wp2_with fail
  refine (l1Below_c _ _ _ _ hc3 (by omega)).mono ?_; rintro e w4 ⟨x, rfl, hx0, hx1, hc4, hgr4⟩
  have hx6 := hx1 (by omega)
  have hgs4 : g < w4.heap.size := Nat.lt_of_lt_of_le (Nat.lt_of_lt_of_le hgs2 b3.size) hgr4.size
  have hG := grown_trans hgr3 hgr4
  by_cases h0 : x = 0
  · subst h0
    have hsz : ¬ 9223372036854775807 < (⟨#[48]⟩ : ByteArray).size + s.size := by
      have : (⟨#[48]⟩ : ByteArray).size = 1 := rfl
      omega
    go_wp2_with fail
    go_ret
    exact ⟨_, rfl, by rw [ByteArray.size_append]; have : (⟨#[48]⟩ : ByteArray).size = 1 := rfl; omega, hb1.grown hG hb1.size (fun k hk => by cases hk; exact hg0)⟩
  by_cases h1 : x = 1
  · subst h1
    go_wp2_with fail
    refine (l1Str_c _ _ _ [⟨#[48]⟩, ⟨#[97]⟩, ⟨#[47]⟩, ⟨#[58]⟩, ⟨#[32]⟩] _ (hc4.alloc hgs4 _) (rd_new (e := 9) _ rfl (by decide) (heap_new rfl)) (by decide) (by decide) (by intro a c n h; cases h; show w4.heap.size ≠ g; omega)).mono ?_; rintro e w5 ⟨y, rfl, hy, hc5, hgr5⟩
    have hyz : y.size ≤ 1 := (show ∀ z ∈ ([⟨#[48]⟩, ⟨#[97]⟩, ⟨#[47]⟩, ⟨#[58]⟩, ⟨#[32]⟩] : List ByteArray), z.size ≤ 1 by decide) y hy
    have hsz : ¬ 9223372036854775807 < s.size + y.size := by omega
    go_wp2_with fail
    go_ret
    exact ⟨_, rfl, by rw [ByteArray.size_append]; omega, hb1.grown (grown_trans (grown_alloc hG _) hgr5) hb1.size (fun k hk => by cases hk; exact hg0)⟩
  by_cases h2 : x = 2
  · subst h2
    go_wp2_with fail
    refine (l1Str_c _ _ _ [⟨#[]⟩, ⟨#[45, 49]⟩, ⟨#[45]⟩, ⟨#[43, 49]⟩, ⟨#[49, 48, 48, 48]⟩, ⟨#[57, 57, 57]⟩, ⟨#[48, 48]⟩, ⟨#[49, 56, 52, 52, 54, 55, 52, 52, 48, 55, 51, 55, 48, 57, 53, 53, 49, 54, 49, 54]⟩, ⟨#[47, 57]⟩, ⟨#[48, 58]⟩] _ (hc4.alloc hgs4 _) (rd_new (e := 9) _ rfl (by decide) (heap_new rfl)) (by decide) (by decide) (by intro a c n h; cases h; show w4.heap.size ≠ g; omega)).mono ?_; rintro e w5 ⟨y, rfl, hy, hc5, hgr5⟩
    have hyz : y.size ≤ 20 := (show ∀ z ∈ ([⟨#[]⟩, ⟨#[45, 49]⟩, ⟨#[45]⟩, ⟨#[43, 49]⟩, ⟨#[49, 48, 48, 48]⟩, ⟨#[57, 57, 57]⟩, ⟨#[48, 48]⟩, ⟨#[49, 56, 52, 52, 54, 55, 52, 52, 48, 55, 51, 55, 48, 57, 53, 53, 49, 54, 49, 54]⟩, ⟨#[47, 57]⟩, ⟨#[48, 58]⟩] : List ByteArray), z.size ≤ 20 by decide) y hy
    go_wp2_with fail
    go_ret
    exact ⟨_, rfl, by omega, hb1.grown (grown_trans (grown_alloc hG _) hgr5) hb1.size (fun k hk => by cases hk; exact hg0)⟩
  · go_wp2_with fail
    go_ret
    exact ⟨_, rfl, by omega, hb1.grown hG hb1.size (fun k hk => by cases hk; exact hg0)⟩
end Go.Proofs.YtfmjcmhofjibmaaDoor
