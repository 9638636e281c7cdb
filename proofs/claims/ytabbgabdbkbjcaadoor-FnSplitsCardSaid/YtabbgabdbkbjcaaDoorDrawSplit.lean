/- Contracts: drawn texts with separators, drawn lists of texts. -/
import Derived.Test.YtabbgabdbkbjcaaDoorDrawOdd
import Derived.Test.YtabbgabdbkbjcaaDoorMem3
namespace Go.Proofs.YtabbgabdbkbjcaaDoor
open Go.ChangeShapes Go.WideShapes Go.ChangeAt Go.RowKit
set_option maxRecDepth 100000
set_option maxHeartbeats 1000000 in
theorem l1Parts_c (g : Nat) (l : List UInt8) (sep : ByteArray) (w : World) (hc : Cur w g l) (hgs : g < w.heap.size) (hsep : sep.size ≤ 2) :
    Calls Tryd.prog 31 #[.pointer (some ⟨g, 0, none⟩), .string sep] w fun e w' => ∃ s : ByteArray, e = .returned (.string s) ∧ s.size ≤ 64 ∧ Cur w' g l ∧ w.grownBy w' (some g) := by
  go_enter Tryd.func31, Tryd.ntmps31
  go_wp2_with fail
  refine (l1Below_c _ _ _ _ hc (by omega)).mono ?_; rintro e w1 ⟨n, rfl, hn0, hn1, hc1, hg1⟩
  have hn6 := hn1 (by omega)
  obtain ⟨n, rfl⟩ := Int.eq_ofNat_of_zero_le hn0
  have hgs1 : g < w1.heap.size := Nat.lt_of_lt_of_le hgs hg1.size
  go_wp2_with fail
  go_loopw [5, 6] (fun s i wr => ∃ (k : Nat) (t : ByteArray), k ≤ 5 ∧ i = .int .i64 k ∧ s = .string t ∧ t.size ≤ 4 * (5 - k) ∧ Cur wr g l ∧ w.grownBy wr (some g)) (fun _ i _ => (intOf i).toNat)
  case atStart => exact ⟨n, ⟨#[]⟩, by omega, rfl, rfl, by simp [ByteArray.size], hc1, hg1⟩
  case round =>
    obtain ⟨k, t, hk, rfl, rfl, ht, hcr, hgr⟩ := hrel
    have hgsr : g < wr.heap.size := Nat.lt_of_lt_of_le hgs hgr.size
    by_cases hlt : (0 : Int) < (k : Int)
    · go_wp2_with fail
      refine (l1Str_c _ _ _ [⟨#[97]⟩, ⟨#[98]⟩, ⟨#[]⟩, ⟨#[97, 98]⟩, ⟨#[43]⟩, ⟨#[59, 32]⟩] _ (hcr.alloc hgsr _) (rd_new (e := 9) _ rfl (by decide) (heap_new rfl)) (by decide) (by decide) (by intro a c n h; cases h; show wr.heap.size ≠ g; omega)).mono ?_; rintro e w5 ⟨y, rfl, hy, hc5, hgr5⟩
      have hyz : y.size ≤ 2 := (show ∀ z ∈ ([⟨#[97]⟩, ⟨#[98]⟩, ⟨#[]⟩, ⟨#[97, 98]⟩, ⟨#[43]⟩, ⟨#[59, 32]⟩] : List ByteArray), z.size ≤ 2 by decide) y hy
      have hz1 : ¬ 9223372036854775807 < t.size + y.size := by omega
      have hz2 : ¬ 9223372036854775807 < t.size + y.size + sep.size := by omega
      go_wp2_with fail
      go_roundw
      case rel => exact ⟨k - 1, _, by omega, by rw [show ((k - 1 : Nat) : Int) = (k : Int) - 1 by omega], rfl, by simp only [ByteArray.size_append]; omega, hc5, grown_trans (grown_alloc hgr _) hgr5⟩
      case measure => simp [intOf]; omega
    · go_wp2_with fail
      refine (l1Str_c _ _ _ [⟨#[]⟩, ⟨#[97]⟩, ⟨#[59]⟩] _ (hcr.alloc hgsr _) (rd_new (e := 9) _ rfl (by decide) (heap_new rfl)) (by decide) (by decide) (by intro a c n h; cases h; show wr.heap.size ≠ g; omega)).mono ?_; rintro e w5 ⟨y, rfl, hy, hc5, hgr5⟩
      have hyz : y.size ≤ 1 := (show ∀ z ∈ ([⟨#[]⟩, ⟨#[97]⟩, ⟨#[59]⟩] : List ByteArray), z.size ≤ 1 by decide) y hy
      have hz1 : ¬ 9223372036854775807 < t.size + y.size := by omega
      go_wp2_with fail
      go_ret
      exact ⟨_, rfl, by rw [ByteArray.size_append]; omega, hc5, grown_trans (grown_alloc hgr _) hgr5⟩
theorem drawSplitAt_c (v : Value) (l : List UInt8) (w : World) (hv : RdL w 1 byteEn v l) (hl : l.length ≤ 4096) :
    Calls Tryd.prog 13 #[v] w fun e w' => ∃ s sep : ByteArray, e = .returned (.tuple #[.string s, .string sep]) ∧ s.size ≤ 64 ∧ sep.size ≤ 2 ∧ Below w.heap.size w w' := by
  go_enter Tryd.func13, Tryd.ntmps13
  go_wp2_with fail
  refine (l1New_c _ _ _ hv hl).mono ?_; rintro e w1 ⟨g, rfl, hg0, hg1, hc1, hb1⟩
  go_wp2_with fail
  refine (l1Str_c _ _ _ [⟨#[59, 32]⟩, ⟨#[43]⟩, ⟨#[32]⟩, ⟨#[97, 97]⟩, ⟨#[]⟩, ⟨#[97]⟩] _ (hc1.alloc hg1 _) (rd_new (e := 9) _ rfl (by decide) (heap_new rfl)) (by decide) (by decide) (by intro a c n h; cases h; show w1.heap.size ≠ g; omega)).mono ?_; rintro e w2 ⟨y, rfl, hy, hc2, hgr2⟩
  have hyz : y.size ≤ 2 := (show ∀ z ∈ ([⟨#[59, 32]⟩, ⟨#[43]⟩, ⟨#[32]⟩, ⟨#[97, 97]⟩, ⟨#[]⟩, ⟨#[97]⟩] : List ByteArray), z.size ≤ 2 by decide) y hy
  have hgr2' := grown_trans (grown_alloc (grown_refl w1 (some g)) _) hgr2
  go_wp2_with fail
  refine (l1Parts_c _ _ _ _ hc2 (Nat.lt_of_lt_of_le hg1 hgr2'.size) hyz).mono ?_; rintro e w3 ⟨s, rfl, hs, hc3, hgr3⟩
  go_wp2_with fail
  go_ret2
  exact ⟨s, y, rfl, hs, hyz, hb1.grown (grown_trans hgr2' hgr3) hb1.size (fun k hk => by cases hk; exact hg0)⟩
theorem l1Word_c (g : Nat) (l : List UInt8) (w : World) (hc : Cur w g l) (hgs : g < w.heap.size) :
    Calls Tryd.prog 34 #[.pointer (some ⟨g, 0, none⟩)] w fun e w' => ∃ s : ByteArray, e = .returned (.string s) ∧ s.size ≤ 9 ∧ Cur w' g l ∧ w.grownBy w' (some g) := by
  go_enter Tryd.func34, Tryd.ntmps34
  go_wp2_with fail
  refine (l1Str_c _ _ _ [⟨#[97]⟩, ⟨#[98]⟩, ⟨#[100, 101, 115, 107]⟩, ⟨#[107, 49]⟩, ⟨#[122, 122, 57]⟩, ⟨#[108, 97, 109, 112]⟩, ⟨#[97, 98, 99, 100, 101, 102, 103, 104]⟩, ⟨#[97, 98, 99, 100, 101, 102, 103, 104, 105]⟩, ⟨#[]⟩, ⟨#[57, 97]⟩, ⟨#[65]⟩, ⟨#[97, 32, 98]⟩, ⟨#[97, 45, 98]⟩, ⟨#[114, 117, 110]⟩] _ (hc.alloc hgs _) (rd_new (e := 9) _ rfl (by decide) (heap_new rfl)) (by decide) (by decide) (by intro a c n h; cases h; show w.heap.size ≠ g; omega)).mono ?_; rintro e w2 ⟨y, rfl, hy, hc2, hgr2⟩
  have hyz : y.size ≤ 9 := (show ∀ z ∈ ([⟨#[97]⟩, ⟨#[98]⟩, ⟨#[100, 101, 115, 107]⟩, ⟨#[107, 49]⟩, ⟨#[122, 122, 57]⟩, ⟨#[108, 97, 109, 112]⟩, ⟨#[97, 98, 99, 100, 101, 102, 103, 104]⟩, ⟨#[97, 98, 99, 100, 101, 102, 103, 104, 105]⟩, ⟨#[]⟩, ⟨#[57, 97]⟩, ⟨#[65]⟩, ⟨#[97, 32, 98]⟩, ⟨#[97, 45, 98]⟩, ⟨#[114, 117, 110]⟩] : List ByteArray), z.size ≤ 9 by decide) y hy
  go_wp2_with fail
  go_ret
  exact ⟨y, rfl, hyz, hc2, grown_trans (grown_alloc (grown_refl _ _) _) hgr2⟩
set_option maxHeartbeats 1000000 in
theorem drawAscending_c (v : Value) (l : List UInt8) (w : World) (hv : RdL w 1 byteEn v l) (hl : l.length ≤ 4096) :
    Calls Tryd.prog 15 #[v] w fun e w' => ∃ (u : Value) (m : List ByteArray), e = .returned u ∧ m.length ≤ 6 ∧ OwnL w' w.heap.size 9 1 strEn u m ∧ Below w.heap.size w w' := by
  obtain ⟨i0, hi, hz0, hz1, hz2⟩ := info_parts info_str
  go_enter Tryd.func15, Tryd.ntmps15
  go_wp2_with fail
  refine (l1New_c _ _ _ hv hl).mono ?_; rintro e w1 ⟨g, rfl, hg0, hg1, hc1, hb1⟩
  have hown0 : OwnL (w1.alloc (.cells #[] 9 : Obj)) w1.heap.size 9 1 strEn (.slice (some ⟨w1.heap.size, 0, none⟩) 0 0) ([] : List ByteArray) := World.ownsRow_made w1 #[] 0 (Nat.le_refl _) (Nat.zero_le _) rfl
  have hcA := hc1.alloc hg1 (.cells #[] 9 : Obj)
  have hgA := grown_alloc (grown_refl w1 (some g)) (.cells #[] 9 : Obj)
  go_wp2_with fail
  refine (l1Below_c _ _ _ _ hcA (by omega)).mono ?_; rintro e w2 ⟨n, rfl, hn0, hn1, hc2, hgr2⟩
  have hn6 := hn1 (by omega)
  obtain ⟨n, rfl⟩ := Int.eq_ofNat_of_zero_le hn0
  have hb2 : Below w.heap.size w w2 := hb1.grown (grown_trans hgA hgr2) hb1.size (fun k hk => by cases hk; exact hg0)
  have hown2 := hown0.kept hgr2 (.inr (fun e => by have e1 : w1.heap.size = g := Option.some.inj e; omega))
  have hs2 : w1.heap.size ≤ w2.heap.size := (grown_trans hgA hgr2).size
  have hw1 := hb1.size
  clear hcA hgA hgr2 hown0
  go_wp2_with fail
  go_loopw [4, 5] (fun u i wr => ∃ (k : Nat) (m : List ByteArray), k ≤ 6 ∧ i = .int .i64 k ∧ m.length ≤ 6 - k ∧ OwnL wr w1.heap.size 9 1 strEn u m ∧ Cur wr g l ∧ w1.heap.size ≤ wr.heap.size ∧ Below w.heap.size w wr) (fun _ i _ => (intOf i).toNat)
  case atStart => exact ⟨n, [], by omega, rfl, by simp, hown2, hc2, hs2, hb2⟩
  case round =>
    obtain ⟨k, m, hk, rfl, hm, hown, hcr, hsr, hbr⟩ := hrel
    by_cases hlt : (0 : Int) < (k : Int)
    · go_wp2_with fail
      refine (l1Word_c _ _ _ hcr (by omega)).mono ?_; rintro e w3 ⟨y, rfl, _, hc3, hgr3⟩
      have hown3 := hown.kept hgr3 (by
        rcases hv : (Value.ownBlock _) with _ | h
        · exact .inl rfl
        · exact .inr (fun e => by have h1 := (OwnL.lt hown hv).1; have h2 : h = g := Option.some.inj e; omega))
      have hb3 : Below w.heap.size w w3 := hbr.grown hgr3 hbr.size (fun k hk => by cases hk; exact hg0)
      have hs3 : w1.heap.size ≤ w3.heap.size := Nat.le_trans hsr hgr3.size
      go_wp2_with (at_builtin; go_must (refine push_law rfl _ _ 22 (by exact rfl) w1.heap.size 9 i0 (.string ByteArray.empty) 1 16 Tryd.underlying22 hi hz0 hz1 hz2 rfl (by decide) strEn _ _ y (by exact rfl) hown3 (by exact rfl) rfl (by simp [strEn, Value.oneCell']) hb3 hw1 hs3 (by omega) (by decide) ?_); intro v4 w4 hown4 hg4 hb4)
      have hbc : Below w1.heap.size w3 w4 := ((Below.refl w1.heap.size w3).alloc hs3 _).grown hg4 (by simp; omega) (fun j hj => (OwnL.lt hown3 hj).1)
      go_roundw
      case rel => exact ⟨k - 1, _, by omega, by rw [show ((k - 1 : Nat) : Int) = (k : Int) - 1 by omega], by simp; omega, hown4, hc3.below hbc hg1, Nat.le_trans hs3 hbc.size, hb4⟩
      case measure => simp [intOf]; omega
    · go_wp2
      go_ret
      exact ⟨_, rfl, m, by omega, hown.mono hw1, hbr⟩
end Go.Proofs.YtabbgabdbkbjcaaDoor
