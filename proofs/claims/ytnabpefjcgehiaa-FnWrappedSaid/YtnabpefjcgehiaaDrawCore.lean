/- Contracts: drawn cells, texts of cells. Written by wip/tools/drawgen.py. -/
import Derived.Test.YtnabpefjcgehiaaM0
import Derived.Deep.Cut
namespace Go.Proofs.Ytnabpefjcgehiaa
open Go.ChangeShapes Go.WideShapes Go.ChangeAt Go.RowKit
set_option maxRecDepth 100000
set_option linter.unusedVariables false
/-- what drawn cells are bounded by -/
def DrawnC (m : List Pu.CellD) : Prop := m.length ≤ 6 ∧ ∀ c ∈ m, c.key.size ≤ 9 ∧ (Lit.int .i64 c.val).wf = true
theorem DrawnC.nil : DrawnC [] := ⟨by simp, fun _ h => by cases h⟩
theorem DrawnC.wf {m : List Pu.CellD} (h : DrawnC m) : ∀ c ∈ m, CellD.wf c := fun c hc => ⟨by have := (h.2 c hc).1; unfold maxLen; omega, (h.2 c hc).2⟩
theorem grown_new {a w : World} {r : Option Nat} (h : a.grownBy w r) {p : Addr} (hp : a.heap.size ≤ p.block) (u : Value) : a.grownBy (w.setCell p u) r :=
  ⟨h.os, h.tape, h.output, by simpa [World.setCell] using h.size, fun i hi hne => (Below.heap_setCell w p u i (by intro e; subst e; omega)).trans (h.block i hi hne)⟩
theorem row_keep {w w' : World} {r : Option Nat} {b : Nat} {o : Obj} (h : w.grownBy w' r) (hr : w.heap[b]? = some o) (hne : some b ≠ r) : w'.heap[b]? = some o := (h.block b (Array.getElem?_eq_some_iff.1 hr).1 hne).trans hr
theorem own_keep {α : Type} {w w' : World} {base g : Nat} {e : TypeId} {size : Nat} {en : α → List Value} {v : Value} {l : List α} (h : OwnL w base e size en v l) (hg : w.grownBy w' (some g)) (hb : g < base) : OwnL w' base e size en v l :=
  OwnL.kept h hg (by
    rcases hv : v.ownBlock with _ | k
    · exact .inl rfl
    · exact .inr (fun e => by have h1 := (OwnL.lt h hv).1; have h2 : k = g := Option.some.inj e; omega))
theorem Pu.put3_true (k : ByteArray) (v : Int) : ∀ l : List Pu.CellD, (Pu.put3 k v true l).length ≤ l.length
  | [] => by simp [Pu.put3]
  | c :: r => by
    have h := Pu.put3_true k v r
    rw [Pu.put3]
    simp only [Bool.not_true, Bool.false_and, Bool.true_or, Bool.false_eq_true, if_false, List.nil_append, List.length_append, List.length_cons]
    split <;> simp <;> omega
theorem Pu.put3_len (k : ByteArray) (v : Int) : ∀ l : List Pu.CellD, (Pu.put3 k v false l).length ≤ l.length + 1
  | [] => by simp [Pu.put3]
  | c :: r => by
    have h0 := Pu.put3_len k v r
    have h1 := Pu.put3_true k v r
    rw [Pu.put3]
    rcases Pu.lessB c.key k with _ | _
    · simp only [Bool.not_false, Bool.true_and, Bool.false_or, if_true, List.length_append, List.length_cons, List.length_nil]
      split <;> simp <;> omega
    · simp only [Bool.not_true, Bool.and_false, Bool.false_or, Bool.false_eq_true, if_false, List.nil_append, List.length_append, List.length_cons]
      split <;> simp <;> omega
theorem Pu.put3_mem (k : ByteArray) (v : Int) : ∀ (d : Bool) (l : List Pu.CellD) (c : Pu.CellD), c ∈ Pu.put3 k v d l → c = ⟨k, v⟩ ∨ c ∈ l
  | d, [], c, h => by
    rw [Pu.put3] at h
    split at h
    · cases h
    · left; simpa using h
  | d, x :: r, c, h => by
    rw [Pu.put3, List.mem_append, List.mem_append] at h
    rcases h with h | h | h
    · split at h
      · left; simpa using h
      · cases h
    · split at h
      · cases h
      · right; rw [List.mem_cons]; left; simpa using h
    · rcases Pu.put3_mem k v _ r c h with h | h
      · exact .inl h
      · right; rw [List.mem_cons]; right; exact h
theorem DrawnC.put {m : List Pu.CellD} {k : ByteArray} {v : Int} {N : Nat} (h : ∀ c ∈ m, c.key.size ≤ 9 ∧ (Lit.int .i64 c.val).wf = true) (hk : k.size ≤ 9) (hv : (Lit.int .i64 v).wf = true) : ∀ c ∈ Pu.put3 k v false m, c.key.size ≤ 9 ∧ (Lit.int .i64 c.val).wf = true := fun c hc => by
  rcases Pu.put3_mem k v _ m c hc with rfl | hc
  · exact ⟨hk, hv⟩
  · exact h c hc
theorem l3Kind_c (g : Nat) (l : List UInt8) (w : World) (hc : Cur w g l) (hgs : g < w.heap.size) :
    Calls Try.prog 36 #[.pointer (some ⟨g, 0, none⟩)] w fun e w' => ∃ s : ByteArray, e = .returned (.string s) ∧ s.size ≤ 6 ∧ Cur w' g l ∧ w.grownBy w' (some g) := by
  go_enter Try.func36, Try.ntmps36
  go_wp2_with fail
  refine (l1Once_c _ _ _ _ hc (by omega)).mono ?_; rintro e w1 ⟨q, rfl, hc1, hg1⟩
  have hgs1 : g < w1.heap.size := Nat.lt_of_lt_of_le hgs hg1.size
  rcases q with _ | _
  · go_wp2_with fail
    refine (l1Str_c _ _ _ [⟨#[115, 116, 111, 110, 101]⟩, ⟨#[108, 97, 109, 112]⟩, ⟨#[115, 104, 101, 108, 102]⟩, ⟨#[109, 101, 116, 101, 114]⟩, ⟨#[100, 114, 97, 119, 101, 114]⟩, ⟨#[100, 114, 97, 119, 101, 114]⟩, ⟨#[104, 111, 114, 110]⟩, ⟨#[118, 97, 117, 108, 116]⟩, ⟨#[118, 97, 117, 108, 116]⟩, ⟨#[114, 111, 98, 111, 116]⟩, ⟨#[114, 111, 98, 111, 116]⟩] _ (hc1.alloc hgs1 _) (rd_new (e := 9) _ rfl (by decide) (heap_new rfl)) (by decide) (by decide) (by intro a c n h; cases h; show w1.heap.size ≠ g; omega)).mono ?_; rintro e w2 ⟨y, rfl, hy, hcw2, hgw2⟩
    have hzy : y.size ≤ 6 := (show ∀ z ∈ ([⟨#[115, 116, 111, 110, 101]⟩, ⟨#[108, 97, 109, 112]⟩, ⟨#[115, 104, 101, 108, 102]⟩, ⟨#[109, 101, 116, 101, 114]⟩, ⟨#[100, 114, 97, 119, 101, 114]⟩, ⟨#[100, 114, 97, 119, 101, 114]⟩, ⟨#[104, 111, 114, 110]⟩, ⟨#[118, 97, 117, 108, 116]⟩, ⟨#[118, 97, 117, 108, 116]⟩, ⟨#[114, 111, 98, 111, 116]⟩, ⟨#[114, 111, 98, 111, 116]⟩] : List ByteArray), z.size ≤ 6 by decide) y hy
    go_wp2_with fail
    go_ret
    exact ⟨y, rfl, hzy, hcw2, grown_trans hg1 (grown_trans (grown_alloc (grown_refl _ _) _) hgw2)⟩
  · go_wp2_with fail
    refine (l1Str_c _ _ _ [⟨#[]⟩, ⟨#[76, 97, 109, 112]⟩, ⟨#[108, 97, 109, 112, 115]⟩, ⟨#[114, 111, 99, 107]⟩, ⟨#[107, 101, 101, 112]⟩] _ (hc1.alloc hgs1 _) (rd_new (e := 9) _ rfl (by decide) (heap_new rfl)) (by decide) (by decide) (by intro a c n h; cases h; show w1.heap.size ≠ g; omega)).mono ?_; rintro e w2 ⟨y, rfl, hy, hcw2, hgw2⟩
    have hzy : y.size ≤ 6 := (show ∀ z ∈ ([⟨#[]⟩, ⟨#[76, 97, 109, 112]⟩, ⟨#[108, 97, 109, 112, 115]⟩, ⟨#[114, 111, 99, 107]⟩, ⟨#[107, 101, 101, 112]⟩] : List ByteArray), z.size ≤ 6 by decide) y hy
    go_wp2_with fail
    go_ret
    exact ⟨y, rfl, hzy, hcw2, grown_trans hg1 (grown_trans (grown_alloc (grown_refl _ _) _) hgw2)⟩
theorem l3Key_c (g : Nat) (l : List UInt8) (w : World) (hc : Cur w g l) (hgs : g < w.heap.size) :
    Calls Try.prog 65 #[.pointer (some ⟨g, 0, none⟩)] w fun e w' => ∃ s : ByteArray, e = .returned (.string s) ∧ s.size ≤ 2 ∧ Cur w' g l ∧ w.grownBy w' (some g) := by
  go_enter Try.func65, Try.ntmps65
  go_wp2_with fail
  refine (l1Str_c _ _ _ [⟨#[97]⟩, ⟨#[98]⟩, ⟨#[99]⟩, ⟨#[107]⟩, ⟨#[107, 50]⟩, ⟨#[122]⟩] _ (hc.alloc hgs _) (rd_new (e := 9) _ rfl (by decide) (heap_new rfl)) (by decide) (by decide) (by intro a c n h; cases h; show w.heap.size ≠ g; omega)).mono ?_; rintro e w2 ⟨y, rfl, hy, hcw2, hgw2⟩
  have hzy : y.size ≤ 2 := (show ∀ z ∈ ([⟨#[97]⟩, ⟨#[98]⟩, ⟨#[99]⟩, ⟨#[107]⟩, ⟨#[107, 50]⟩, ⟨#[122]⟩] : List ByteArray), z.size ≤ 2 by decide) y hy
  go_wp2_with fail
  go_ret
  exact ⟨y, rfl, hzy, hcw2, grown_trans (grown_alloc (grown_refl _ _) _) hgw2⟩
set_option maxHeartbeats 2000000 in
theorem l3Cells_c (g : Nat) (l : List UInt8) (w : World) (hc : Cur w g l) (hgs : g < w.heap.size) :
    Calls Try.prog 61 #[.pointer (some ⟨g, 0, none⟩)] w fun e w' => ∃ (v : Value) (m : List Pu.CellD), e = .returned v ∧ OwnL w' w.heap.size 74 2 cellEn v m ∧ (m.length ≤ 5 ∧ DrawnC m) ∧ Cur w' g l ∧ w.grownBy w' (some g) := by
  have hown0 : OwnL (w.alloc (.cells #[] 74 : Obj)) w.heap.size 74 2 cellEn (.slice (some ⟨w.heap.size, 0, none⟩) 0 0) ([] : List Pu.CellD) := World.ownsRow_made w #[] 0 (Nat.le_refl _) (Nat.zero_le _) rfl
  have hcA := hc.alloc hgs (.cells #[] 74 : Obj)
  have hgA := grown_alloc (grown_refl w (some g)) (.cells #[] 74 : Obj)
  go_enter Try.func61, Try.ntmps61
  go_wp2_with fail
  refine (l1Below_c _ _ _ _ hcA (by omega)).mono ?_; rintro e w2 ⟨n, rfl, hn0, hn1, hc2, hgr2⟩
  have hn6 := hn1 (by omega)
  obtain ⟨n, rfl⟩ := Int.eq_ofNat_of_zero_le hn0
  have hG2 := grown_trans hgA hgr2
  have hown2 := own_keep hown0 hgr2 hgs
  clear hcA hgA hgr2 hown0
  go_wp2_with fail
  go_loopw [3, 4] (fun u i wr => ∃ (k : Nat) (m : List Pu.CellD), k ≤ 5 ∧ i = .int .i64 k ∧ m.length ≤ 5 - k ∧ (∀ c ∈ m, c.key.size ≤ 9 ∧ (Lit.int .i64 c.val).wf = true) ∧ OwnL wr w.heap.size 74 2 cellEn u m ∧ Cur wr g l ∧ w.grownBy wr (some g)) (fun _ i _ => (intOf i).toNat)
  case atStart => exact ⟨n, [], by omega, rfl, by simp, (fun _ h => by cases h), hown2, hc2, hG2⟩
  case round =>
    obtain ⟨k, m, hk, rfl, hm, hall, hown, hcr, hgr⟩ := hrel
    have hgsr : g < wr.heap.size := Nat.lt_of_lt_of_le hgs hgr.size
    have HALL := hide hall
    clear hall
    by_cases hlt : (0 : Int) < (k : Int)
    · obtain ⟨A, c, rfl⟩ := OwnL.shape hown
      have HOWN := hide hown
      clear hown
      go_wp2_with fail
      refine (l3Key_c _ _ _ hcr hgsr).mono ?_; rintro e w3 ⟨y, rfl, hy, hc3, hgr3⟩
      have hgs3 : g < w3.heap.size := Nat.lt_of_lt_of_le hgsr hgr3.size
      have HO3 := hide (own_keep HOWN.out hgr3 hgs)
      have hG3 := grown_trans hgr hgr3
      go_wp2_with fail
      refine (l3At_c _ m y _ (HO3.out.rd (fun _ => rfl))).mono ?_; rintro e w4 ⟨rfl, b4⟩
      have HO4 := hide (OwnL.below HO3.out b4 (Nat.le_refl _))
      have hc4 := hc3.kept b4 hgs3
      have hG4 := grown_below hG3 b4
      have hgs4 : g < w4.heap.size := Nat.lt_of_lt_of_le hgs3 b4.size
      obtain ⟨I, HI⟩ : ∃ I, Hid (Pu.at3 y 0 m = I) := ⟨_, rfl⟩
      rw [HI.out]
      by_cases hI : 0 ≤ I
      · skip
        skip
        go_wp2_with fail
        refine (l1Below_c _ _ _ _ hc4 (by omega)).mono ?_; rintro e w5 ⟨x, rfl, hx0, hx1, hc5, hgr5⟩
        have hx30 := hx1 (by omega)
        have hgs5 : g < w5.heap.size := Nat.lt_of_lt_of_le hgs4 hgr5.size
        have HO5 := hide (own_keep HO4.out hgr5 hgs)
        have hG5 := grown_trans hG4 hgr5
        go_wp2_with fail
        refine (l3Put_c _ m y x _ (HO5.out.rd (fun _ => rfl)) (by omega)).mono ?_; rintro e w6 ⟨v6, rfl, o6, b6⟩
        have hl6 := Pu.put3_len y x m
        go_wp2_with fail
        go_roundw
        case rel => exact ⟨k - 1, _, by omega, by rw [show ((k - 1 : Nat) : Int) = (k : Int) - 1 by omega], by omega, DrawnC.put (N := 0) HALL.out (by omega) (WalkArith.wf_i64 (by omega)), o6.mono hG5.size, hc5.kept b6 hgs5, grown_below hG5 b6⟩
        case measure => simp [intOf]; omega
      · skip
        have hm4 : (m.length : Int) < 4 ∨ ¬ (m.length : Int) < 4 := by omega
        rcases hm4 with hm4 | hm4
        rotate_left
        go_wp2_with fail
        go_roundw
        case rel => exact ⟨k - 1, m, by omega, by rw [show ((k - 1 : Nat) : Int) = (k : Int) - 1 by omega], by omega, HALL.out, HO4.out, hc4, hG4⟩
        case measure => simp [intOf]; omega
        go_wp2_with fail
        refine (l1Below_c _ _ _ _ hc4 (by omega)).mono ?_; rintro e w5 ⟨x, rfl, hx0, hx1, hc5, hgr5⟩
        have hx30 := hx1 (by omega)
        have hgs5 : g < w5.heap.size := Nat.lt_of_lt_of_le hgs4 hgr5.size
        have HO5 := hide (own_keep HO4.out hgr5 hgs)
        have hG5 := grown_trans hG4 hgr5
        go_wp2_with fail
        refine (l3Put_c _ m y x _ (HO5.out.rd (fun _ => rfl)) (by omega)).mono ?_; rintro e w6 ⟨v6, rfl, o6, b6⟩
        have hl6 := Pu.put3_len y x m
        go_wp2_with fail
        go_roundw
        case rel => exact ⟨k - 1, _, by omega, by rw [show ((k - 1 : Nat) : Int) = (k : Int) - 1 by omega], by omega, DrawnC.put (N := 0) HALL.out (by omega) (WalkArith.wf_i64 (by omega)), o6.mono hG5.size, hc5.kept b6 hgs5, grown_below hG5 b6⟩
        case measure => simp [intOf]; omega
    · go_wp2
      go_ret
      exact ⟨_, rfl, m, hown, ⟨by omega, by omega, HALL.out⟩, hcr, hgr⟩
end Go.Proofs.Ytnabpefjcgehiaa
