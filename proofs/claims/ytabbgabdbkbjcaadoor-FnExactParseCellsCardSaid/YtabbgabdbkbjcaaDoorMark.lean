/- Contracts of the laws' own helpers: the marks. -/
import Derived.Test.YtabbgabdbkbjcaaDoorMem3
import Derived.Deep.QuietTactic
import Derived.BigQuiet
import Derived.Laws.BytesArg
import Derived.Deep.RegionHeld3
namespace Go.Proofs.YtabbgabdbkbjcaaDoor
open Go.ChangeShapes Go.WideShapes Go.ChangeAt Go.RowKit
set_option maxRecDepth 100000
/-- the decimal digits of n ahead of a -/
def Pu.digs : Nat → Nat → ByteArray → ByteArray
  | 0, _, a => a
  | f + 1, n, a => if n = 0 then a else Pu.digs f (n / 10) (strOfNums [48 + (n : Int) % 10] ++ a)
theorem Pu.digs_zero (f : Nat) (a : ByteArray) : Pu.digs f 0 a = a := by cases f <;> simp [Pu.digs]
def Pu.markT (k : Int) : ByteArray := ⟨#[109]⟩ ++ Pu.digs k.toNat k.toNat ⟨#[]⟩
set_option maxRecDepth 100000 in
theorem markText_c (k : Int) (w : World) (h1 : 1 ≤ k) (h2 : k ≤ 1099511627776) :
    Calls Tryd.prog 28 #[.int .i64 k] w fun e w' => e = .returned (.string (Pu.markT k)) ∧ Below w.heap.size w w' := by
  have he : Tryd.prog.underlying 5 = some (.int .u8) := by kernel_rfl
  obtain ⟨T, HT⟩ : ∃ T, Hid (Pu.digs k.toNat k.toNat ⟨#[]⟩ = T) := ⟨_, rfl⟩
  have HM : Hid (Pu.markT k = ⟨#[109]⟩ ++ T) := by rw [Hid, Pu.markT, HT.out]
  rw [HM.out]
  go_enter Tryd.func28, Tryd.ntmps28
  go_wp2
  go_loopw [0, 3] (fun kk out wr => ∃ n f : Nat, ∃ o : ByteArray, n ≤ f ∧ o.size + n ≤ k.toNat ∧ Hid (Pu.digs f n o = T) ∧ kk = .int .i64 n ∧ out = .string o ∧ Below w.heap.size w wr) (fun kk _ _ => (intOf kk).toNat)
  case atStart => exact ⟨k.toNat, k.toNat, ⟨#[]⟩, Nat.le_refl _, by simp [ByteArray.size], HT, by simp; omega, rfl, Below.refl _ _⟩
  case round =>
    obtain ⟨n, f, o, hnf, hon, HD, rfl, rfl, hb⟩ := hrel
    by_cases hlt : 0 < n
    · have hcv := run_convert_bytes_arg (wr.alloc (.cells #[.int .u8 (48 + (n : Int) % 10)] 5)) 27 5 Tryd.underlying27 he wr.heap.size 0 1 1 [48 + (n : Int) % 10] rfl (fun i hi => by
        obtain rfl : i = 0 := by omega
        exact cell_of_row _ wr.heap.size 0 _ _ (0, 0) (heap_new rfl)) 9 Tryd.underlying9
      have HCV := hide hcv
      clear hcv
      have hz : ¬ 9223372036854775807 < (strOfNums [48 + (n : Int) % 10]).size + o.size := by rw [strOfNums_size]; simp; omega
      go_wp2
      rw [HCV.out]
      go_wp2
      go_roundw
      case rel =>
        obtain ⟨f', rfl⟩ : ∃ f', f = f' + 1 := ⟨f - 1, by omega⟩
        refine ⟨n / 10, f', strOfNums [48 + (n : Int) % 10] ++ o, by omega, ?_, ?_, by go_num, rfl, below_alloc hb _⟩
        · rw [ByteArray.size_append, strOfNums_size]; simp; omega
        · have hd := HD.out
          rw [Pu.digs, if_neg (by omega)] at hd
          exact hd
      case measure => simp [intOf]; omega
    · obtain rfl : n = 0 := by omega
      have hd := HD.out
      rw [Pu.digs_zero] at hd
      subst hd
      have hz : ¬ 9223372036854775807 < 1 + o.size := by omega
      go_wp2
      go_ret
      exact ⟨rfl, hb⟩
/-! ## lists that are made by number -/
def Pu.gen {α : Type} (g : Nat → α) (n : Nat) : List α := (List.range n).map g
theorem Pu.gen_len {α : Type} (g : Nat → α) (n : Nat) : (Pu.gen g n).length = n := by simp [Pu.gen]
theorem Pu.gen_at {α : Type} {g : Nat → α} {n j : Nat} (h : j < n) : (Pu.gen g n)[j]? = some (g j) := by
  simp [Pu.gen, List.getElem?_range h]
theorem Pu.gen_succ {α : Type} (g : Nat → α) (n : Nat) : Pu.gen g (n + 1) = Pu.gen g n ++ [g n] := by simp [Pu.gen, List.range_succ]
theorem Pu.gen_set {α : Type} {g : Nat → α} {l : List α} {j : Nat} (h : j < l.length) : (Pu.gen g j ++ l.drop j).set j (g j) = Pu.gen g (j + 1) ++ l.drop (j + 1) := by
  rw [List.set_append_right _ _ (by rw [Pu.gen_len]; omega), Pu.gen_len, Nat.sub_self, Pu.gen_succ, List.append_assoc, List.drop_eq_getElem_cons h]
  rfl
theorem grown_of {w w' : World} (h : Below w.heap.size w w') (row : Option Nat) : w.grownBy w' row := ⟨h.os, h.tape, h.output, h.size, fun i hi _ => h.block i hi⟩
theorem grown_within {α : Type} {w w' : World} {base C : Nat} {e : TypeId} {size : Nat} {en : α → List Value} {v : Value} {l : List α} (h : OwnL w base e size en v l) (hg : w.grownBy w' v.ownBlock) (hC : w.heap.size ≤ C ∨ ∀ g, v.ownBlock = some g → g < C) : Within base C w w' :=
  ⟨hg.os, hg.tape, hg.output, hg.size, fun g hgs hb => hg.block g hgs (fun e => by
    have h1 := h.lt e.symm
    rcases hC with h2 | h2
    · omega
    · have := h2 g e.symm; omega)⟩
def Pu.gS (k : Int) (j : Nat) : ByteArray := Pu.markT (k + j)
set_option maxRecDepth 100000 in
theorem markStringS_c (v : Value) (l : List ByteArray) (k : Int) (base : Nat) (w : World) (h : OwnL w base 9 1 strEn v l) (hk0 : 1 ≤ k) (hk1 : k ≤ 4294967296) (hl : l.length ≤ 4294967296) :
    Calls Tryd.prog 10 #[v, .int .i64 k] w fun e w' => e = .returned (.int .i64 (k + l.length)) ∧ OwnL w' base 9 1 strEn v (Pu.gen (Pu.gS k) l.length) ∧ w.grownBy w' v.ownBlock := by
  by_cases hn : l.length = 0
  · obtain ⟨A, c, rfl⟩ := h.empty hn
    have hz := hide hn
    obtain rfl : l = [] := List.eq_nil_of_length_eq_zero hn
    go_enter Tryd.func10, Tryd.ntmps10
    go_wp2
    refine wp_loop_rounds 1 ?_
    rw [rounds_succ]
    go_wp2
    go_ret
    exact ⟨ret_int (by simp), h, grown_refl _ _⟩
  · obtain ⟨g, c, rfl, hbg, hgs, hlc, hcm⟩ := h.at_ (by omega)
    go_enter Tryd.func10, Tryd.ntmps10
    go_wp2
    go_loopw [1, 5] (fun kk i wr => ∃ j : Nat, j ≤ l.length ∧ i = .int .i64 j ∧ kk = .int .i64 (k + j) ∧ wr.ownsRow base 9 1 (.slice (some ⟨g, 0, none⟩) l.length c) l.length ((Pu.gen (Pu.gS k) j ++ l.drop j).map Value.string) ∧ w.grownBy wr (some g)) (fun _ i _ => l.length - (intOf i).toNat)
    case atStart => exact ⟨0, by omega, rfl, by simp, by have h' : w.ownsRow base 9 1 _ _ (l.flatMap strEn) := h; rw [flat_str] at h'; simpa [Pu.gen] using h', grown_refl _ _⟩
    case round =>
      obtain ⟨j, hj, rfl, rfl, hown, hgr⟩ := hrel
      by_cases hlt : j < l.length
      · go_wp2_with fail
        refine (markText_c _ _ (by omega) (by omega)).mono ?_; rintro e w2 ⟨rfl, hb2⟩
        have hown2 := row_below hown hb2
        have hc : w2.cell? ⟨g, j, none⟩ = some (.string l[j]) := by
          rw [World.ownsRow.cellAt hown2 j (by omega), List.getElem?_map, List.getElem?_append_right (by rw [Pu.gen_len]; omega), Pu.gen_len]
          simp [List.getElem?_eq_getElem hlt]
        have hf := World.ownsRow.frozenAt hown2 j
        obtain ⟨hs1, hs2⟩ := World.ownsRow.stored hown2 j (.string (Pu.markT (k + j)))
        rw [← List.map_set, show Pu.markT (k + j) = Pu.gS k j from rfl, Pu.gen_set hlt] at hs1
        have HS1 := hide hs1
        have HG := hide (grown_trans (grown_trans hgr (grown_of hb2 _)) hs2)
        clear hs1 hs2 hown hown2 hgr
        go_wp2
        go_roundw
        case rel => exact ⟨j + 1, by omega, by go_num, by go_num, HS1.out, HG.out⟩
        case measure => simp [intOf]; omega
      · obtain rfl : j = l.length := by omega
        go_wp2
        go_ret
        refine ⟨rfl, ?_, hgr⟩
        unfold OwnL
        rw [flat_str, Pu.gen_len]
        simpa using hown
set_option maxRecDepth 100000 in
theorem heldStringS_c (v : Value) (n : Nat) (k : Int) (w : World) (hv : RdStr w v (Pu.gen (Pu.gS k) n)) (hk0 : 1 ≤ k) (hk1 : k ≤ 4294967296) (hl : n ≤ 4294967296) :
    Calls Tryd.prog 11 #[v, .int .i64 k] w fun e w' => e = .returned (.int .i64 (k + n)) ∧ Below w.heap.size w w' := by
  obtain ⟨A, c, rfl, hlc, hcm, hA⟩ := hv.open_
  have HA := hide hA
  clear hA hv
  rw [Pu.gen_len] at hlc
  rw [Pu.gen_len]
  go_enter Tryd.func11, Tryd.ntmps11
  go_wp2
  go_loopw [1, 5] (fun kk i wr => ∃ j : Nat, j ≤ n ∧ i = .int .i64 j ∧ kk = .int .i64 (k + j) ∧ Below w.heap.size w wr) (fun _ i _ => n - (intOf i).toNat)
  case atStart => exact ⟨0, by omega, rfl, by simp, Below.refl _ _⟩
  case round =>
    obtain ⟨j, hj, rfl, rfl, hb⟩ := hrel
    by_cases hlt : j < n
    · obtain ⟨g, o, rfl, hg, HC⟩ := HA.out.at_ (by rw [Pu.gen_len]; omega)
      obtain ⟨x, HX, h0⟩ := str_get HC hb (k := j) (by rw [Pu.gen_len]; omega)
      obtain rfl : x = Pu.markT (k + j) := by have e1 := HX.out; rw [Pu.gen_at hlt] at e1; simpa [Pu.gS] using e1.symm
      have hgr : g < wr.heap.size := Nat.lt_of_lt_of_le hg hb.size
      have K0 : Below wr.heap.size wr wr := Below.refl _ _
      have KD : ∀ w' : World, Below wr.heap.size wr w' → Below wr.heap.size wr w'.drew := fun _ h => h.drew
      have HB := hide hb
      clear hb
      go_wp2_with fail
      go_region_held3 (fun w' => Below wr.heap.size wr w' ∧ w'.cell? ⟨g, o + j, none⟩ = some (.string (Pu.markT (k + j)))) (go_keep)
        (first | (go_at_call 28; refine (markText_c _ _ (by omega) (by omega)).mono ?_; rintro e WX ⟨rfl, bX⟩;
                     have KW : Below wr.heap.size wr WX := below_then (And.left (by assumption)) bX;
                     have KX : ∀ i : Nat, WX.cell? ⟨g, i, none⟩ = _ := fun i => bX.cell (Nat.lt_of_lt_of_le hgr (Below.size (And.left (by assumption))))))
      go_wp2
      go_roundw
      case rel => exact ⟨j + 1, by omega, by go_num, by go_num, below_then HB.out KW⟩
      case measure => simp [intOf]; omega
    · go_wp2
      go_ret
      exact ⟨ret_int (by omega), hb⟩
end Go.Proofs.YtabbgabdbkbjcaaDoor
