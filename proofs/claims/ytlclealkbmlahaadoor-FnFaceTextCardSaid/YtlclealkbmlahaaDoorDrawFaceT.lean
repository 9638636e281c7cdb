/- Contracts: drawn faces and their texts. -/
import Derived.Test.YtlclealkbmlahaaDoorDraw
import Derived.Test.YtlclealkbmlahaaDoorParseFace
namespace Go.Proofs.YtlclealkbmlahaaDoor
open Go.ChangeShapes Go.WideShapes Go.ChangeAt Go.RowKit
set_option maxRecDepth 100000
theorem l1Odd_c (g : Nat) (l : List UInt8) (w : World) (hc : Cur w g l) (hgs : g < w.heap.size) :
    Calls Tryd.prog 28 #[.pointer (some ⟨g, 0, none⟩)] w fun e w' => ∃ x : Int, e = .returned (.int .i64 x) ∧ (Lit.int .i64 x).wf = true ∧ Cur w' g l ∧ w.grownBy w' (some g) := by
  go_enter Tryd.func28, Tryd.ntmps28
  go_wp2_with fail
  refine (l1Int_c _ _ _ [-1, 0, 1, 2, 3, 4, 5, 6, 7, 63, 64, 99, 100, 999, 1000, 9223372036854775807, -9223372036854775808] _ (hc.alloc hgs _) (rd_new_int (e := 3) _ rfl (by decide) (heap_new rfl)) (by decide) (by decide) (by intro a c n h; cases h; show w.heap.size ≠ g; omega)).mono ?_; rintro e w2 ⟨x, rfl, hx, hc2, hg2⟩
  go_wp2_with fail
  go_ret
  refine ⟨x, rfl, ?_, hc2, grown_trans (grown_alloc (grown_refl _ _) _) hg2⟩
  exact (show ∀ y ∈ ([-1, 0, 1, 2, 3, 4, 5, 6, 7, 63, 64, 99, 100, 999, 1000, 9223372036854775807, -9223372036854775808] : List Int), (Lit.int .i64 y).wf = true by decide) x hx
theorem drawFormatFace_c (v : Value) (l : List UInt8) (w : World) (hv : RdL w 1 byteEn v l) (hl : l.length ≤ 4096) :
    Calls Tryd.prog 11 #[v] w fun e w' => ∃ x : Int, e = .returned (.int .i64 x) ∧ (Lit.int .i64 x).wf = true ∧ Below w.heap.size w w' := by
  go_enter Tryd.func11, Tryd.ntmps11
  go_wp2_with fail
  refine (l1New_c _ _ _ hv hl).mono ?_; rintro e w1 ⟨g, rfl, hg0, hg1, hc1, hb1⟩
  go_wp2_with fail
  refine (l2Any_c _ _ _ hc1 hg1).mono ?_; rintro e w2 ⟨x, rfl, hx, hc2, hgr2⟩
  go_wp2_with fail
  go_ret
  exact ⟨x, rfl, hx, hb1.grown hgr2 hb1.size (fun k hk => by cases hk; exact hg0)⟩
theorem drawAbilityName_c (v : Value) (l : List UInt8) (w : World) (hv : RdL w 1 byteEn v l) (hl : l.length ≤ 4096) :
    Calls Tryd.prog 15 #[v] w fun e w' => ∃ x : Int, e = .returned (.int .i64 x) ∧ (Lit.int .i64 x).wf = true ∧ Below w.heap.size w w' := by
  go_enter Tryd.func15, Tryd.ntmps15
  go_wp2_with fail
  refine (l1New_c _ _ _ hv hl).mono ?_; rintro e w1 ⟨g, rfl, hg0, hg1, hc1, hb1⟩
  go_wp2_with fail
  refine (l1Once_c _ _ _ _ hc1 (by omega)).mono ?_; rintro e w2 ⟨b, rfl, hc2, hgr2⟩
  have hgs2 : g < w2.heap.size := Nat.lt_of_lt_of_le hg1 hgr2.size
  cases b
  · go_wp2_with fail
    refine (l1Below_c _ _ _ _ hc2 (by omega)).mono ?_; rintro e w3 ⟨x, rfl, hx0, hx1, hc3, hgr3⟩
    have := hx1 (by omega)
    go_wp2_with fail
    go_ret
    exact ⟨_, rfl, WalkArith.wf_i64 (by omega), hb1.grown (grown_trans hgr2 hgr3) hb1.size (fun k hk => by cases hk; exact hg0)⟩
  · go_wp2_with fail
    refine (l1Odd_c _ _ _ hc2 hgs2).mono ?_; rintro e w3 ⟨x, rfl, hx, hc3, hgr3⟩
    go_wp2_with fail
    go_ret
    exact ⟨x, rfl, hx, hb1.grown (grown_trans hgr2 hgr3) hb1.size (fun k hk => by cases hk; exact hg0)⟩
theorem Cur.kept {w w' : World} {g : Nat} {l : List UInt8} (hc : Cur w g l) (hb : Below w.heap.size w w') (hg : g < w.heap.size) : Cur w' g l := hc.below hb hg
theorem grown_below {a w w' : World} {row : Option Nat} (h : a.grownBy w row) (hb : Below w.heap.size w w') : a.grownBy w' row :=
  ⟨hb.os.trans h.os, hb.tape.trans h.tape, hb.output.trans h.output, Nat.le_trans h.size hb.size, fun i hi hne => (hb.block i (Nat.lt_of_lt_of_le hi h.size)).trans (h.block i hi hne)⟩
set_option maxHeartbeats 1000000 in
theorem drawParseFace_c (v : Value) (l : List UInt8) (w : World) (hv : RdL w 1 byteEn v l) (hl : l.length ≤ 4096) :
    Calls Tryd.prog 14 #[v] w fun e w' => ∃ s : ByteArray, e = .returned (.string s) ∧ s.size ≤ 64 ∧ Below w.heap.size w w' := by
  go_enter Tryd.func14, Tryd.ntmps14
  go_wp2_with fail
  refine (l1New_c _ _ _ hv hl).mono ?_; rintro e w1 ⟨g, rfl, hg0, hg1, hc1, hb1⟩
  go_wp2_with fail
  refine (l2Face_c _ _ _ hc1).mono ?_; rintro e w2 ⟨f, rfl, _, _, hc2, hgr2⟩
  have hgs2 : g < w2.heap.size := Nat.lt_of_lt_of_le hg1 hgr2.size
  go_wp2_with fail
  refine (sFormatFace_c _ _).mono ?_; rintro e w3 ⟨rfl, b3⟩
  have hc3 := hc2.kept b3 hgs2
  have hgr3 := grown_below hgr2 b3
  have hz := Pu.faceT_size f
  generalize Pu.faceT f = s at hz ⊢
  go_wp2_with fail
  refine (l1Below_c _ _ _ _ hc3 (by omega)).mono ?_; rintro e w4 ⟨x, rfl, hx0, hx1, hc4, hgr4⟩
  have hx6 := hx1 (by omega)
  have hgs4 : g < w4.heap.size := Nat.lt_of_lt_of_le (Nat.lt_of_lt_of_le hgs2 b3.size) hgr4.size
  have hG := grown_trans hgr3 hgr4
  by_cases h0 : x = 0
  · subst h0
    go_wp2_with fail
    refine (l1Str_c _ _ _ [⟨#[43]⟩, ⟨#[43, 114, 117, 110]⟩, ⟨#[32]⟩, ⟨#[115]⟩] _ (hc4.alloc hgs4 _) (rd_new (e := 9) _ rfl (by decide) (heap_new rfl)) (by decide) (by decide) (by intro a c n h; cases h; show w4.heap.size ≠ g; omega)).mono ?_; rintro e w5 ⟨y, rfl, hy, hc5, hgr5⟩
    have hyz : y.size ≤ 4 := (show ∀ z ∈ ([⟨#[43]⟩, ⟨#[43, 114, 117, 110]⟩, ⟨#[32]⟩, ⟨#[115]⟩] : List ByteArray), z.size ≤ 4 by decide) y hy
    have hsz : ¬ 9223372036854775807 < s.size + y.size := by omega
    go_wp2_with fail
    go_ret
    exact ⟨_, rfl, by rw [ByteArray.size_append]; omega, hb1.grown (grown_trans (grown_alloc hG _) hgr5) hb1.size (fun k hk => by cases hk; exact hg0)⟩
  by_cases h1 : x = 1
  · subst h1
    go_wp2_with fail
    refine (l1Str_c _ _ _ [⟨#[]⟩, ⟨#[43]⟩, ⟨#[114, 117, 110, 43, 114, 117, 110]⟩, ⟨#[107, 101, 101, 112, 43, 114, 117, 110]⟩, ⟨#[110, 111, 110, 101, 43, 114, 117, 110]⟩, ⟨#[110, 111]⟩] _ (hc4.alloc hgs4 _) (rd_new (e := 9) _ rfl (by decide) (heap_new rfl)) (by decide) (by decide) (by intro a c n h; cases h; show w4.heap.size ≠ g; omega)).mono ?_; rintro e w5 ⟨y, rfl, hy, hc5, hgr5⟩
    have hyz : y.size ≤ 8 := (show ∀ z ∈ ([⟨#[]⟩, ⟨#[43]⟩, ⟨#[114, 117, 110, 43, 114, 117, 110]⟩, ⟨#[107, 101, 101, 112, 43, 114, 117, 110]⟩, ⟨#[110, 111, 110, 101, 43, 114, 117, 110]⟩, ⟨#[110, 111]⟩] : List ByteArray), z.size ≤ 8 by decide) y hy
    go_wp2_with fail
    go_ret
    exact ⟨_, rfl, by omega, hb1.grown (grown_trans (grown_alloc hG _) hgr5) hb1.size (fun k hk => by cases hk; exact hg0)⟩
  · go_wp2_with fail
    go_ret
    exact ⟨_, rfl, by omega, hb1.grown hG hb1.size (fun k hk => by cases hk; exact hg0)⟩
/-! ## Plain laws -/
def Pu.abLs : Nat → List (List UInt8)
  | 0 => []
  | k + 1 => Pu.abLs k ++ [(Pu.abL[k]?).getD []]
/-- the names of a face's abilities below k, as lists -/
def Pu.namesL (f : Int) : Nat → List (List UInt8)
  | 0 => []
  | k + 1 => Pu.namesL f k ++ (if Pu.hasB f k then [(Pu.abL[k]?).getD []] else [])
theorem Pu.namesTo_L (f : Int) : ∀ k, (Pu.namesTo f k).map (·.data.toList) = Pu.namesL f k
  | 0 => rfl
  | k + 1 => by
    rw [Pu.namesTo, Pu.namesL, List.map_append, Pu.namesTo_L f k]
    split <;> rfl
def Pu.faceL (f : Int) : List UInt8 := if Pu.faceB f then (if f = 0 then [110, 111, 110, 101] else Lib.join (Pu.namesL f 6) [43]) else []
theorem Pu.faceT_L (f : Int) : (Pu.faceT f).toList = Pu.faceL f := by
  unfold Pu.faceT Pu.faceL
  split
  · split
    · rw [Lib.toList_data]; rfl
    · rw [← Pu.joinB_lib, Lib.toList_data, Pu.namesTo_L]; rfl
  · rw [Lib.toList_data]
def Pu.pfL (s : List UInt8) : Nat → Nat → Int × Bool
  | _, 0 => (0, false)
  | k, n + 1 => if Pu.faceL k == s then ((k : Int), true) else Pu.pfL s (k + 1) n
theorem Pu.pf_L (s : ByteArray) : ∀ n k, Pu.pfFrom s k n = Pu.pfL s.toList k n
  | 0, _ => rfl
  | n + 1, k => by rw [Pu.pfFrom, Pu.pfL, Pu.faceT_L, Pu.pf_L s n]
set_option maxRecDepth 100000 in
theorem Pu.pf_back : ∀ n : Nat, n < 64 → Pu.pfL (Pu.faceL n) 0 64 = ((n : Int), true) := by decide +kernel
set_option maxRecDepth 100000 in
theorem Pu.pf_nul : Pu.pfL [] 0 64 = (0, false) := by decide +kernel
theorem Pu.pf_faceT (f : Int) : Pu.pf (Pu.faceT f) = if Pu.faceB f then (f, true) else (0, false) := by
  rw [Pu.pf, Pu.pf_L, Pu.faceT_L]
  split
  · rename_i h
    obtain ⟨n, rfl, hn⟩ := Pu.nat_of_faceB h
    exact Pu.pf_back n hn
  · rename_i h
    rw [Pu.faceL, if_neg h]
    exact Pu.pf_nul
theorem Pu.pfFrom_hit (s : ByteArray) : ∀ n k, (Pu.pfFrom s k n).2 = true → ((Pu.faceT (Pu.pfFrom s k n).1).toList == s.toList) = true
  | 0, _, h => by cases h
  | n + 1, k, h => by
    rw [Pu.pfFrom] at h ⊢
    split
    · assumption
    · rename_i hn
      rw [if_neg hn] at h
      exact Pu.pfFrom_hit s n _ h
theorem Pu.ix_back : ∀ k : Nat, k < 6 → Pu.abIx ((Pu.abL[k]?).getD []) = k := by decide +kernel
theorem Pu.abName_nul {k : Int} : (Pu.abName k == []) = true ∨ ((Pu.abName k == []) = false ∧ Pu.abIx (Pu.abName k) = k) := by
  unfold Pu.abName
  split
  · exact .inl rfl
  · obtain ⟨n, rfl⟩ := Int.eq_ofNat_of_zero_le (show 0 ≤ k by omega)
    refine .inr ⟨?_, Pu.ix_back n (by omega)⟩
    exact (show ∀ n : Nat, n < 6 → ((Pu.abL[n]?).getD [] == []) = false by decide) n (by omega)
end Go.Proofs.YtlclealkbmlahaaDoor
