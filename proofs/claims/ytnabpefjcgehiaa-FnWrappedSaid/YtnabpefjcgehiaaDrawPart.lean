/- Contracts: drawn adapters and recipes. Written by wip/tools/drawgen.py. -/
import Derived.Test.YtnabpefjcgehiaaDrawCore2
import Derived.Test.YtnabpefjcgehiaaLay
import Derived.Test.YtnabpefjcgehiaaRecFace
import Derived.Test.YtnabpefjcgehiaaM2
import Derived.Test.YtnabpefjcgehiaaM0
namespace Go.Proofs.Ytnabpefjcgehiaa
open Go.ChangeShapes Go.WideShapes Go.ChangeAt Go.RowKit
set_option maxRecDepth 100000
set_option linter.unusedVariables false
theorem l4Name_c (g : Nat) (l : List UInt8) (w : World) (hc : Cur w g l) (hgs : g < w.heap.size) :
    Calls Try.prog 34 #[.pointer (some ⟨g, 0, none⟩)] w fun e w' => ∃ s : ByteArray, e = .returned (.string s) ∧ s.size ≤ 6 ∧ Cur w' g l ∧ w.grownBy w' (some g) := by
  go_enter Try.func34, Try.ntmps34
  go_wp2_with fail
  refine (l1Once_c _ _ _ _ hc (by omega)).mono ?_; rintro e w1 ⟨q, rfl, hc1, hg1⟩
  have hgs1 : g < w1.heap.size := Nat.lt_of_lt_of_le hgs hg1.size
  rcases q with _ | _
  · go_wp2_with fail
    refine (l1Str_c _ _ _ [⟨#[112, 108, 97, 105, 110]⟩, ⟨#[114, 117, 110, 115]⟩, ⟨#[107, 101, 101, 112, 115]⟩, ⟨#[99, 111, 117, 110, 116, 115]⟩, ⟨#[99, 111, 117, 110, 116, 115]⟩, ⟨#[108, 97, 122, 121]⟩, ⟨#[108, 97, 122, 121]⟩, ⟨#[114, 101, 97, 100, 115]⟩, ⟨#[104, 101, 97, 114, 115]⟩, ⟨#[104, 101, 97, 108, 115]⟩, ⟨#[116, 119, 105, 99, 101]⟩] _ (hc1.alloc hgs1 _) (rd_new (e := 9) _ rfl (by decide) (heap_new rfl)) (by decide) (by decide) (by intro a c n h; cases h; show w1.heap.size ≠ g; omega)).mono ?_; rintro e w2 ⟨y, rfl, hy, hcw2, hgw2⟩
    have hzy : y.size ≤ 6 := (show ∀ z ∈ ([⟨#[112, 108, 97, 105, 110]⟩, ⟨#[114, 117, 110, 115]⟩, ⟨#[107, 101, 101, 112, 115]⟩, ⟨#[99, 111, 117, 110, 116, 115]⟩, ⟨#[99, 111, 117, 110, 116, 115]⟩, ⟨#[108, 97, 122, 121]⟩, ⟨#[108, 97, 122, 121]⟩, ⟨#[114, 101, 97, 100, 115]⟩, ⟨#[104, 101, 97, 114, 115]⟩, ⟨#[104, 101, 97, 108, 115]⟩, ⟨#[116, 119, 105, 99, 101]⟩] : List ByteArray), z.size ≤ 6 by decide) y hy
    go_wp2_with fail
    go_ret
    exact ⟨y, rfl, hzy, hcw2, grown_trans hg1 (grown_trans (grown_alloc (grown_refl _ _) _) hgw2)⟩
  · go_wp2_with fail
    refine (l1Str_c _ _ _ [⟨#[]⟩, ⟨#[80, 108, 97, 105, 110]⟩, ⟨#[115, 97, 118, 101]⟩, ⟨#[99, 111, 117, 110, 116]⟩, ⟨#[108, 97, 109, 112]⟩] _ (hc1.alloc hgs1 _) (rd_new (e := 9) _ rfl (by decide) (heap_new rfl)) (by decide) (by decide) (by intro a c n h; cases h; show w1.heap.size ≠ g; omega)).mono ?_; rintro e w2 ⟨y, rfl, hy, hcw2, hgw2⟩
    have hzy : y.size ≤ 6 := (show ∀ z ∈ ([⟨#[]⟩, ⟨#[80, 108, 97, 105, 110]⟩, ⟨#[115, 97, 118, 101]⟩, ⟨#[99, 111, 117, 110, 116]⟩, ⟨#[108, 97, 109, 112]⟩] : List ByteArray), z.size ≤ 6 by decide) y hy
    go_wp2_with fail
    go_ret
    exact ⟨y, rfl, hzy, hcw2, grown_trans hg1 (grown_trans (grown_alloc (grown_refl _ _) _) hgw2)⟩
set_option maxHeartbeats 1000000 in
theorem l4Fitting_c (g : Nat) (l : List UInt8) (f : Int) (w : World) (hc : Cur w g l) (hgs : g < w.heap.size) :
    Calls Try.prog 32 #[.pointer (some ⟨g, 0, none⟩), .int .i64 f] w fun e w' => ∃ s : ByteArray, e = .returned (.string s) ∧ s.size ≤ 6 ∧ Cur w' g l ∧ w.grownBy w' (some g) := by
  go_enter Try.func32, Try.ntmps32
  go_wp2_with fail
  refine (l4Name_c _ _ _ hc hgs).mono ?_; rintro e w1 ⟨s, rfl, hs, hc1, hg1⟩
  go_wp2_with fail
  go_loopw [5, 6] (fun u i wr => ∃ (y : ByteArray) (k : Nat), k ≤ 6 ∧ u = .string y ∧ i = .int .i64 k ∧ y.size ≤ 6 ∧ Cur wr g l ∧ w.grownBy wr (some g)) (fun _ i _ => 6 - (intOf i).toNat)
  case atStart => exact ⟨s, 0, by omega, rfl, rfl, hs, hc1, hg1⟩
  case round =>
    obtain ⟨y, k, hk, rfl, rfl, hy, hcr, hgr⟩ := hrel
    have hgsr : g < wr.heap.size := Nat.lt_of_lt_of_le hgs hgr.size
    by_cases hlt : (k : Int) < 6
    · obtain ⟨N, hN⟩ : ∃ N, Hid (Pu.layN y.toList = N) := ⟨_, rfl⟩
      go_wp2_with fail
      refine (sLayerNeeds_c y _).mono ?_; rintro e w2 ⟨rfl, b2⟩
      rw [hN.out]
      have hc2 := hcr.kept b2 hgsr
      have hg2 := grown_below hgr b2
      have hgs2 : g < w2.heap.size := Nat.lt_of_lt_of_le hgs hg2.size
      rcases (by cases Pu.layOk y.toList <;> simp : Pu.layOk y.toList = false ∨ Pu.layOk y.toList = true) with hok | hok
      · rw [hok]
        go_wp2_with fail
        refine (l4Name_c _ _ _ hc2 hgs2).mono ?_; rintro e w3 ⟨z, rfl, hz, hc3, hg3⟩
        go_wp2
        go_roundw
        case rel => exact ⟨z, k + 1, by omega, rfl, by go_num, hz, hc3, grown_trans hg2 hg3⟩
        case measure => simp [intOf]; omega
      · rw [hok]
        go_wp2_with fail
        refine (sOffers_c f N _).mono ?_; rintro e w' ⟨rfl, rfl⟩
        rcases (by cases Pu.offersB f N <;> simp : Pu.offersB f N = false ∨ Pu.offersB f N = true) with hof | hof
        · rw [hof]
          go_wp2_with fail
          refine (l4Name_c _ _ _ hc2 hgs2).mono ?_; rintro e w3 ⟨z, rfl, hz, hc3, hg3⟩
          go_wp2
          go_roundw
          case rel => exact ⟨z, k + 1, by omega, rfl, by go_num, hz, hc3, grown_trans hg2 hg3⟩
          case measure => simp [intOf]; omega
        · rw [hof]
          rcases (by cases (y.toList == [112, 108, 97, 105, 110]) <;> simp : (y.toList == [112, 108, 97, 105, 110]) = false ∨ (y.toList == [112, 108, 97, 105, 110]) = true) with hp | hp
          · go_wp2
            go_ret
            exact ⟨y, rfl, hy, hc2, hg2⟩
          · by_cases h4 : (4 : Int) < (k : Int)
            · go_wp2
              go_ret
              exact ⟨y, rfl, hy, hc2, hg2⟩
            · go_wp2_with fail
              refine (l4Name_c _ _ _ hc2 hgs2).mono ?_; rintro e w3 ⟨z, rfl, hz, hc3, hg3⟩
              go_wp2
              go_roundw
              case rel => exact ⟨z, k + 1, by omega, rfl, by go_num, hz, hc3, grown_trans hg2 hg3⟩
              case measure => simp [intOf]; omega
    · go_wp2
      go_ret
      exact ⟨y, rfl, hy, hcr, hgr⟩
/-- 'append(out, x)': x lies in a new block of its own; out is the call's own -/
theorem push_str {P : Program} {ops : Array Oper} {rest : List Oper} {o : Oper} {a : Act} {Q : Exit → Act → World → Prop} {wr : World} (hgd : o.guard = none) (s x : Operand) (t : TypeId)
    (ho : o.op = .call { callee := .builtin .append, args := #[s, x], argTypes := #[t, t] }) (base : Nat) (e : TypeId) (i : TypeInfo) (z : Value) (size bytes : Nat)
    (ht : P.underlying t = some (.slice e)) (hi : P.info? e = some i) (hz : i.zero = some z) (hsize : i.size = size) (hby : i.bytes = bytes) (hzs : z.cells.size = size) (hsz : 0 < size)
    {α : Type} (en : α → List Value) (v : Value) (l : List α) (y : α) (hs : a.eval s = v) (hown : OwnL wr base e size en v l) (hx : a.eval x = .slice (some ⟨wr.heap.size, 0, none⟩) 1 1)
    (hlen : (en y).length = size) (hone : ∀ u ∈ en y, u.oneCell' = true) (hb' : base ≤ wr.heap.size) (hn : l.length < 1099511627776) (hbytes : bytes ≤ 64)
    (h : ∀ v' w', OwnL w' base e size en v' (l ++ [y]) → (wr.alloc (.cells (en y).toArray e)).grownBy w' v.ownBlock → wpList P ops Q rest (a.put o.dst v') w') :
    wpList P ops Q (o :: rest) a (wr.alloc (.cells (en y).toArray e)) := by
  refine wpList_append_own _ hgd s x t ho base e i z size bytes ht hi hz hsize hby hzs hsz v l.length (l.flatMap en) hs (World.ownsRow.alloc hown _) ⟨wr.heap.size, 0, none⟩ 1 1 (en y) hx (by omega) ?_ hone (by unfold maxLen; omega) ?_ (by simp; omega) ?_
  · intro j u hj
    have e1 : (⟨wr.heap.size, 0, none⟩ : Addr).add j = ⟨wr.heap.size, j, none⟩ := by unfold Addr.add; split <;> simp_all
    rw [e1, cell_of_row _ wr.heap.size j (en y).toArray e (0, 0) (heap_alloc_new wr _)]
    simpa using hj
  · calc (l.length + 1) * bytes ≤ 1099511627776 * 64 := Nat.mul_le_mul (by omega) hbytes
      _ ≤ 140737488355328 := by decide
  · intro v' w' hown' hg _
    exact h v' w' (OwnL.snoc hown') hg
/-- what a drawn recipe is bounded by -/
def DrawnR (m : List ByteArray) : Prop := ∀ x ∈ m, x.size ≤ 6
theorem one_rec (n : ByteArray) : ∀ u ∈ strEn n, u.oneCell' = true := by simp [strEn, Value.oneCell']
set_option maxHeartbeats 2000000 in
theorem l4Recipe_c (g : Nat) (l : List UInt8) (w : World) (hc : Cur w g l) (hgs : g < w.heap.size) :
    Calls Try.prog 21 #[.pointer (some ⟨g, 0, none⟩)] w fun e w' => ∃ (u : Value) (m : List ByteArray), e = .returned u ∧ OwnL w' w.heap.size 9 1 strEn u m ∧ m.length ≤ 4 ∧ DrawnR m ∧ Cur w' g l ∧ w.grownBy w' (some g) := by
  obtain ⟨i0, hi, hz0, hz1, hz2⟩ := info_parts info_str
  go_enter Try.func21, Try.ntmps21
  go_wp2_with fail
  refine (l3Kind_c _ _ _ hc hgs).mono ?_; rintro e w1 ⟨s, rfl, hs, hc1, hg1⟩
  have hgs1 : g < w1.heap.size := Nat.lt_of_lt_of_le hgs hg1.size
  have hs1 : w.heap.size ≤ w1.heap.size := hg1.size
  have hownA : OwnL (w1.alloc (.cells #[.string s] 9 : Obj)) w.heap.size 9 1 strEn (.slice (some ⟨w1.heap.size, 0, none⟩) 1 1) [s] := OwnL.mono (own_madeR (w := w1) (e := 9) (en := strEn) [s] rfl (fun _ => rfl) (by decide)) hs1
  have hcA := hc1.alloc hgs1 (.cells #[.string s] 9 : Obj)
  have hgA := grown_alloc hg1 (.cells #[.string s] 9 : Obj)
  go_wp2_with fail
  refine (l1Below_c _ _ _ _ hcA (by omega)).mono ?_; rintro e w2 ⟨n, rfl, hn0, hn1, hc2, hgr2⟩
  have hn4 := hn1 (by omega)
  obtain ⟨n, rfl⟩ := Int.eq_ofNat_of_zero_le hn0
  have hown2 := own_keep hownA hgr2 hgs
  have hg2 := grown_trans hgA hgr2
  clear hcA hgA hgr2 hownA hg1 hc1
  go_wp2_with fail
  go_loopw [3, 4] (fun u i wr => ∃ (k : Nat) (m : List ByteArray), k ≤ 3 ∧ i = .int .i64 k ∧ m.length ≤ 4 - k ∧ Hid (DrawnR m) ∧ OwnL wr w.heap.size 9 1 strEn u m ∧ Cur wr g l ∧ w.grownBy wr (some g)) (fun _ i _ => (intOf i).toNat)
  case atStart => exact ⟨n, [s], by omega, rfl, by simp; omega, (fun x hx => by obtain rfl : x = s := (by simpa using hx); exact hs), hown2, hc2, hg2⟩
  case round =>
    obtain ⟨k, m, hk, rfl, hm, hD, hown, hcr, hgr⟩ := hrel
    by_cases hlt : (0 : Int) < (k : Int)
    · have hsr : w.heap.size ≤ wr.heap.size := hgr.size
      have hgsr : g < wr.heap.size := Nat.lt_of_lt_of_le hgs hsr
      obtain ⟨Au, cu, rfl⟩ := OwnL.shape hown
      go_wp2_with fail
      refine (sRecipeFace_c _ m _ (hown.rd (fun _ => rfl)) (fun y hy => by have := hD.out y hy; unfold maxLen; omega) (by omega)).mono ?_; rintro e w2 ⟨rfl, b2⟩
      have hc3 := hcr.kept b2 hgsr
      have hg3 := grown_below hgr b2
      have hgs3 : g < w2.heap.size := Nat.lt_of_lt_of_le hgs hg3.size
      have hown3 := OwnL.below hown b2 (Nat.le_refl _)
      go_wp2_with fail
      refine (l4Fitting_c _ _ _ _ hc3 hgs3).mono ?_; rintro e w3 ⟨y, rfl, hy, hc4, hgr4⟩
      have hown4 := own_keep hown3 hgr4 hgs
      have hg4 := grown_trans hg3 hgr4
      have hs4 : w.heap.size ≤ w3.heap.size := hg4.size
      go_wp2_with (at_builtin; go_must (refine push_str rfl _ _ 24 (by exact rfl) w.heap.size 9 i0 _ 1 16 Try.underlying24 hi hz0 hz1 hz2 rfl (by decide) strEn _ m y (by exact rfl) hown4 (by exact rfl) rfl (one_rec y) hs4 (by omega) (by decide) ?_); intro v5 w5 hown5 hg5)
      have hgA : w3.grownBy w5 (Value.slice Au m.length cu).ownBlock := grown_trans (grown_alloc (grown_refl w3 _) _) hg5
      have hlo : ∀ j, (Value.slice Au m.length cu).ownBlock = some j → w.heap.size ≤ j := fun j hj => (OwnL.lt hown4 hj).1
      have hc5 : Cur w5 g l := hc4.below (B := w.heap.size) ⟨hgA.os, hgA.tape, hgA.output, hgA.size, fun j hj => hgA.block j (by omega) (fun h9 => by have := hlo j h9.symm; omega)⟩ hgs
      have hg5' : w.grownBy w5 (some g) := ⟨hgA.os.trans hg4.os, hgA.tape.trans hg4.tape, hgA.output.trans hg4.output, Nat.le_trans hg4.size hgA.size, fun j hj hne => (hgA.block j (Nat.lt_of_lt_of_le hj hg4.size) (fun h9 => by have := hlo j h9.symm; omega)).trans (hg4.block j hj hne)⟩
      go_roundw
      case rel => exact ⟨k - 1, _, by omega, by rw [show ((k - 1 : Nat) : Int) = (k : Int) - 1 by omega], by simp; omega, (fun x hx => by rcases List.mem_append.1 hx with hx | hx; exact hD.out x hx; obtain rfl : x = y := (by simpa using hx); exact hy), hown5, hc5, hg5'⟩
      case measure => simp [intOf]; omega
    · go_wp2
      go_ret
      exact ⟨_, rfl, m, hown, by omega, hD.out, hcr, hgr⟩
set_option maxHeartbeats 2000000 in
theorem drawMakePart_c (v : Value) (l : List UInt8) (w : World) (hv : RdL w 1 byteEn v l) (hl : l.length ≤ 4096) :
    Calls Try.prog 6 #[v] w fun e w' => ∃ (u : Value) (m : List ByteArray), e = .returned u ∧ RdStr w' u m ∧ m.length ≤ 6 ∧ DrawnR m ∧ Below w.heap.size w w' := by
  obtain ⟨i0, hi, hz0, hz1, hz2⟩ := info_parts info_str
  go_enter Try.func6, Try.ntmps6
  go_wp2_with fail
  refine (l1New_c _ _ _ hv hl).mono ?_; rintro e w1 ⟨g, rfl, hg0, hg1, hc1, b1⟩
  go_wp2_with fail
  refine (l4Recipe_c _ _ _ hc1 hg1).mono ?_; rintro e w2 ⟨u, m, rfl, o2, hm, hD, hc2, hgr2⟩
  have hg2 : g < w2.heap.size := Nat.lt_of_lt_of_le hg1 hgr2.size
  have B2 : Below w.heap.size w w2 := b1.grown hgr2 b1.size (fun k hk => by cases hk; omega)
  obtain ⟨A, c, rfl⟩ := OwnL.shape o2
  go_wp2_with fail
  refine (l1Below_c _ _ _ _ hc2 (by omega)).mono ?_; rintro e w3 ⟨n, rfl, hn0, hn1, hc3, hgr3⟩
  have o3 := own_keep o2 hgr3 hg1
  have B3 : Below w.heap.size w w3 := B2.grown hgr3 B2.size (fun k hk => by cases hk; omega)
  have hs3 : w1.heap.size ≤ w3.heap.size := Nat.le_trans hgr2.size hgr3.size
  by_cases h0 : n = 0
  · subst h0
    go_wp2
    go_ret
    exact ⟨_, [], rfl, OwnL.rd (en := strEn) (size := 1) (fun _ => rfl) (own_madeR (w := w3) (e := 9) (en := strEn) [] rfl (fun _ => rfl) (by decide)), by simp, (fun x hx => by cases hx), below_alloc B3 _⟩
  · have hb0 : (n == 0) = false := by simp [h0]
    by_cases h1 : n = 1
    · subst h1
      have hown1 : OwnL (w3.alloc (.cells #[.string ⟨#[114, 117, 110, 115]⟩, .string ⟨#[114, 117, 110, 115]⟩] 9 : Obj)) w3.heap.size 9 1 strEn (.slice (some ⟨w3.heap.size, 0, none⟩) 2 2) [⟨#[114, 117, 110, 115]⟩, ⟨#[114, 117, 110, 115]⟩] := own_madeR (w := w3) (e := 9) (en := strEn) [⟨#[114, 117, 110, 115]⟩, ⟨#[114, 117, 110, 115]⟩] rfl (fun _ => rfl) (by decide)
      have HR := hide (OwnL.rd (en := strEn) (size := 1) (fun _ => rfl) hown1)
      clear hown1
      go_wp2_with (at_builtin; go_must (refine wpList_step fun K hK => ?_; refine step_app rfl _ _ 24 (by exact rfl) w1.heap.size 9 i0 _ 1 16 Try.underlying24 hi hz0 hz1 hz2 rfl (by decide) strEn (fun _ => rfl) one_rec _ _ m [⟨#[114, 117, 110, 115]⟩, ⟨#[114, 117, 110, 115]⟩] (by exact rfl) (OwnL.below o3 (below_alloc (Below.refl _ _) _) (Nat.le_refl _)) (by exact rfl) HR.out (by simp; omega) (by simp; omega) (by decide) ?_); intro v5 w5 hown5 hg5; refine hK _ _ ?_; clear hK)
      go_ret
      have hB5 : Below w.heap.size w w5 := Below.grown (below_alloc B3 _) hg5 (by have := B3.size; simp; omega) (fun k hk => by have := (OwnL.lt o3 hk).1; have := b1.size; omega)
      exact ⟨_, _, rfl, OwnL.rd (en := strEn) (size := 1) (fun _ => rfl) hown5, by simp; omega, (fun x hx => by rcases List.mem_append.1 hx with hx | hx; exact hD x hx; obtain rfl : x = ⟨#[114, 117, 110, 115]⟩ := (by simpa using hx); decide), hB5⟩
    · have hb1 : (n == 1) = false := by simp [h1]
      go_wp2
      go_ret
      exact ⟨_, m, rfl, OwnL.rd (en := strEn) (size := 1) (fun _ => rfl) o3, by omega, hD, B3⟩
end Go.Proofs.Ytnabpefjcgehiaa
