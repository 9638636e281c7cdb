/- Contracts: the cursor of the drawn inputs. -/
import Derived.Test.YtabbgabdbkbjcaaDoorMem
import Derived.Deep.QuietTactic
import Derived.BigQuiet
import Derived.RegionTactic
namespace Go.Proofs.YtabbgabdbkbjcaaDoor
open Go.ChangeShapes Go.WideShapes Go.ChangeAt Go.RowKit
set_option maxRecDepth 100000
theorem and255_bd (x : Int) : 0 ≤ bits .and .i64 x 255 ∧ bits .and .i64 x 255 ≤ 255 := by
  show 0 ≤ IntKind.i64.wrap ((BitVec.ofInt 64 x &&& BitVec.ofInt 64 255).toNat : Int) ∧ IntKind.i64.wrap ((BitVec.ofInt 64 x &&& BitVec.ofInt 64 255).toNat : Int) ≤ 255
  have h : (BitVec.ofInt 64 x &&& BitVec.ofInt 64 255).toNat ≤ 255 := by
    rw [BitVec.toNat_and]
    exact Nat.le_trans Nat.and_le_right (by decide)
  rw [IntKind.wrap_i64]
  omega
/-- the cursor in block g: the code's bytes, how many have been read, the number mixed in -/
def Cur (w : World) (g : Nat) (l : List UInt8) : Prop :=
  ∃ (A : Option Addr) (i c : Nat) (h : Int), w.heap[g]? = some (.cells #[.slice A l.length c, .int .i64 i, .int .i64 h] 67 (0, 0)) ∧ l.length ≤ 4096 ∧
    (0 < l.length → ∃ g' o, A = some ⟨g', o, none⟩ ∧ g' < g ∧ ∀ i x, l[i]? = some x → w.cell? ⟨g', o + i, none⟩ = some (.int .u8 x.toNat))
theorem grown_set {a w : World} {g j : Nat} (h : a.grownBy w (some g)) (u : Value) : a.grownBy (w.setCell ⟨g, j, none⟩ u) (some g) :=
  ⟨h.os, h.tape, h.output, by simpa [World.setCell] using h.size, fun i hi hne => (Below.heap_setCell w ⟨g, j, none⟩ u i (fun e => hne (by rw [e]))).trans (h.block i hi hne)⟩
theorem grown_drewN {a w : World} {row : Option Nat} (h : a.grownBy w row) (n : Nat) : a.grownBy (w.drewN n) row := ⟨h.os, h.tape, h.output, h.size, h.block⟩
/-- the cursor behind a step -/
theorem cur_step {w : World} {g i : Nat} {l : List UInt8} {A : Option Addr} {c : Nat} {h h' i' : Int} (hg : w.heap[g]? = some (.cells #[.slice A l.length c, .int .i64 i, .int .i64 h] 67 (0, 0))) (hl : l.length ≤ 4096)
    (hA : 0 < l.length → ∃ g' o, A = some ⟨g', o, none⟩ ∧ g' < g ∧ ∀ i x, l[i]? = some x → w.cell? ⟨g', o + i, none⟩ = some (.int .u8 x.toNat)) {W : World} {k : Nat} (hi : i' = (k : Int))
    (hw : W.heap[g]? = some (.cells #[.slice A l.length c, .int .i64 i', .int .i64 h'] 67 (0, 0))) (hgr : w.grownBy W (some g)) : Cur W g l := by
  subst hi
  refine ⟨A, k, c, h', hw, hl, fun h0 => ?_⟩
  obtain ⟨g', o, e, hlt, hc⟩ := hA h0
  have hgs : g < w.heap.size := by
    rcases Nat.lt_or_ge g w.heap.size with hlt | hge
    · exact hlt
    · rw [Array.getElem?_eq_none hge] at hg; cases hg
  exact ⟨g', o, e, hlt, fun i x hx => (World.cell?_of_block (a := ⟨g', o + i, none⟩) (hgr.block g' (by omega) (fun e => by cases e; omega))).trans (hc i x hx)⟩
theorem Cur.below {w w' : World} {g B : Nat} {l : List UInt8} (hc : Cur w g l) (hb : Below B w w') (hB : g < B) : Cur w' g l := by
  obtain ⟨A, i, c, h, hg, hl, hA⟩ := hc
  refine ⟨A, i, c, h, (hb.block g hB).trans hg, hl, fun h0 => ?_⟩
  obtain ⟨g', o, e, hlt, hcell⟩ := hA h0
  exact ⟨g', o, e, hlt, fun i x hx => (hb.cell (p := ⟨g', _, none⟩) (by show g' < B; omega)).trans (hcell i x hx)⟩
theorem Cur.alloc {w : World} {g : Nat} {l : List UInt8} (hc : Cur w g l) (hB : g < w.heap.size) (o : Obj) : Cur (w.alloc o) g l := hc.below (below_alloc (Below.refl _ _) o) hB
theorem grown_alloc {a w : World} {row : Option Nat} (h : a.grownBy w row) (o : Obj) : a.grownBy (w.alloc o) row :=
  ⟨h.os, h.tape, h.output, Nat.le_trans h.size (by simp), fun i hi hne => (Below.heap_alloc w o i (Nat.lt_of_lt_of_le hi h.size)).trans (h.block i hi hne)⟩
set_option maxHeartbeats 400000 in
theorem l1Byte_c (g : Nat) (l : List UInt8) (w : World) (hc : Cur w g l) :
    Calls Tryd.prog 51 #[.pointer (some ⟨g, 0, none⟩)] w fun e w' => ∃ x : Int, e = .returned (.int .i64 x) ∧ 0 ≤ x ∧ x ≤ 255 ∧ Cur w' g l ∧ w.grownBy w' (some g) := by
  obtain ⟨A, i, c, h, hg, hl, hA⟩ := hc
  have h0 : w.cell? ⟨g, 0, none⟩ = some (.slice A l.length c) := by rw [cell_of_row w g 0 _ _ (0, 0) hg]; rfl
  have h1 : w.cell? ⟨g, 1, none⟩ = some (.int .i64 i) := by rw [cell_of_row w g 1 _ _ (0, 0) hg]; rfl
  have h2 : w.cell? ⟨g, 2, none⟩ = some (.int .i64 h) := by rw [cell_of_row w g 2 _ _ (0, 0) hg]; rfl
  have f0 : ∀ j, w.frozen? ⟨g, j, none⟩ = false := fun j => frozen_of_row w g j _ _ hg
  have HA := hide hA
  have HG := hide hg
  clear hA hg
  by_cases hi : i < l.length
  · obtain ⟨g', o, rfl, hgg, hcell⟩ := HA.out (by omega)
    have hb := hcell i l[i] (List.getElem?_eq_getElem hi)
    have hne : ¬ g' = g := by omega
    go_enter Tryd.func51, Tryd.ntmps51
    go_wp2_with fail
    generalize wrap64 (wrap64 (h * 6364136223846793005) + 1442695040888963407) = h'
    go_quiet (fail)
    go_wp2_with fail
    obtain ⟨hx0, hx1⟩ := and255_bd (bits .xor .i64 (h' / 34359738368) (h' / 35184372088832))
    generalize bits .and .i64 (bits .xor .i64 (h' / 34359738368) (h' / 35184372088832)) 255 = x at hx0 hx1 ⊢
    go_quiet (fail)
    go_wp2_with fail
    go_quiet (fail)
    go_wp2_with fail
    go_ret
    obtain ⟨hy0, hy1⟩ := and255_bd (wrap64 (x + wrap64 ↑l[i].toNat))
    exact ⟨_, rfl, hy0, hy1, cur_step HG.out hl HA.out (k := i + 1) (by omega) (heap_setCell_same _ g 1 _ _ _ (heap_setCell_same w g 2 _ _ _ HG.out)) (grown_set (grown_drewN (grown_set (grown_refl _ _) _) _) _), grown_set (grown_drewN (grown_set (grown_refl _ _) _) _) _⟩
  · go_enter Tryd.func51, Tryd.ntmps51
    go_wp2_with fail
    generalize wrap64 (wrap64 (h * 6364136223846793005) + 1442695040888963407) = h'
    go_quiet (fail)
    go_wp2_with fail
    obtain ⟨hx0, hx1⟩ := and255_bd (bits .xor .i64 (h' / 34359738368) (h' / 35184372088832))
    generalize bits .and .i64 (bits .xor .i64 (h' / 34359738368) (h' / 35184372088832)) 255 = x at hx0 hx1 ⊢
    go_quiet (fail)
    go_wp2_with fail
    go_ret
    exact ⟨_, rfl, hx0, hx1, cur_step HG.out hl HA.out (k := i) rfl (heap_setCell_same w g 2 _ _ _ HG.out) (grown_drewN (grown_drewN (grown_set (grown_refl _ _) _) _) _), grown_drewN (grown_drewN (grown_set (grown_refl _ _) _) _) _⟩
theorem l1Below_c (g : Nat) (l : List UInt8) (n : Int) (w : World) (hc : Cur w g l) (hn : n ≤ 1048576) :
    Calls Tryd.prog 33 #[.pointer (some ⟨g, 0, none⟩), .int .i64 n] w fun e w' => ∃ x : Int, e = .returned (.int .i64 x) ∧ 0 ≤ x ∧ (0 < n → x < n) ∧ Cur w' g l ∧ w.grownBy w' (some g) := by
  by_cases h0 : n ≤ 0
  · go_enter Tryd.func33, Tryd.ntmps33
    go_wp2_with fail
    go_ret
    exact ⟨0, rfl, by omega, by omega, hc, grown_refl _ _⟩
  by_cases h1 : n ≤ 256
  · go_enter Tryd.func33, Tryd.ntmps33
    go_wp2_with fail
    refine (l1Byte_c _ _ _ hc).mono ?_; rintro e w1 ⟨x, rfl, hx0, hx1, hc1, hg1⟩
    go_wp2_with fail
    go_ret
    have hm := Int.emod_nonneg x (show n ≠ 0 by omega)
    have hm2 := Int.emod_lt_of_pos x (show 0 < n by omega)
    exact ⟨_, rfl, hm, fun _ => hm2, hc1, hg1⟩
  · go_enter Tryd.func33, Tryd.ntmps33
    go_wp2_with fail
    refine (l1Byte_c _ _ _ hc).mono ?_; rintro e w1 ⟨x, rfl, hx0, hx1, hc1, hg1⟩
    go_wp2_with fail
    refine (l1Byte_c _ _ _ hc1).mono ?_; rintro e w2 ⟨y, rfl, hy0, hy1, hc2, hg2⟩
    go_wp2_with fail
    refine (l1Byte_c _ _ _ hc2).mono ?_; rintro e w3 ⟨z, rfl, hz0, hz1, hc3, hg3⟩
    go_wp2_with fail
    go_ret
    have hm := Int.emod_nonneg (x * 65536 + y * 256 + z) (show n ≠ 0 by omega)
    have hm2 := Int.emod_lt_of_pos (x * 65536 + y * 256 + z) (show 0 < n by omega)
    exact ⟨_, rfl, hm, fun _ => hm2, hc3, grown_trans (grown_trans hg1 hg2) hg3⟩
theorem l1Str_c (g : Nat) (l : List UInt8) (v : Value) (m : List ByteArray) (w : World) (hc : Cur w g l) (hv : RdStr w v m) (hm : 0 < m.length) (hm1 : m.length ≤ 1048576) (hfar : ∀ a c n, v = .slice (some a) n c → a.block ≠ g) :
    Calls Tryd.prog 30 #[.pointer (some ⟨g, 0, none⟩), v] w fun e w' => ∃ x : ByteArray, e = .returned (.string x) ∧ x ∈ m ∧ Cur w' g l ∧ w.grownBy w' (some g) := by
  obtain ⟨A, c, rfl, hlc, hcm, hA⟩ := RdL.open_ hv
  obtain ⟨g', o, rfl, hg', HC⟩ := hA.at_ hm
  have hne : g' ≠ g := hfar _ _ _ rfl
  clear hA hfar
  go_enter Tryd.func30, Tryd.ntmps30
  go_wp2_with fail
  refine (l1Below_c _ _ _ _ hc (by omega)).mono ?_; rintro e w1 ⟨x, rfl, hx0, hx1, hc1, hg1⟩
  have hxl := hx1 (by omega)
  obtain ⟨k, rfl⟩ := Int.eq_ofNat_of_zero_le hx0
  obtain ⟨y, HY, hy⟩ : ∃ y, Hid (m[k]? = some y) ∧ w1.cell? ⟨g', o + k, none⟩ = some (.string y) := by
    refine ⟨m[k], List.getElem?_eq_getElem (by omega), ?_⟩
    have h1 := HC.out.2 k _ (List.getElem?_eq_getElem (by omega)) 0 _ rfl
    rw [Nat.mul_one, Nat.add_zero] at h1
    exact (World.cell?_of_block (a := ⟨g', o + k, none⟩) (hg1.block g' hg' (fun e => hne (by cases e; rfl)))).trans h1
  go_wp2_with fail
  go_ret
  exact ⟨y, rfl, List.mem_of_getElem? HY.out, hc1, hg1⟩
set_option maxRecDepth 100000 in
theorem l1New_c (v : Value) (l : List UInt8) (w : World) (hv : RdL w 1 byteEn v l) (hl : l.length ≤ 4096) :
    Calls Tryd.prog 29 #[v] w fun e w' => ∃ g, e = .returned (.pointer (some ⟨g, 0, none⟩)) ∧ w.heap.size ≤ g ∧ g < w'.heap.size ∧ Cur w' g l ∧ Below w.heap.size w w' := by
  obtain ⟨A, c, rfl, hlc, hcm, hA⟩ := RdL.open_ hv
  have HA := hide hA
  clear hA hv
  go_enter Tryd.func29, Tryd.ntmps29
  go_wp2_with fail
  go_loopw [3, 4] (fun h i wr => ∃ (k : Nat) (hh : Int), k ≤ l.length ∧ i = .int .i64 k ∧ h = .int .i64 hh ∧ Below w.heap.size w wr) (fun _ i _ => l.length - (intOf i).toNat)
  case atStart => exact ⟨0, _, by omega, rfl, rfl, Below.refl _ _⟩
  case round =>
    obtain ⟨k, hh, hk, rfl, rfl, hb⟩ := hrel
    by_cases hlt : k < l.length
    · obtain ⟨g, o, rfl, hg, HC⟩ := HA.out.at_ (by omega)
      obtain ⟨x, HX, h0⟩ : ∃ x, Hid (l[k]? = some x) ∧ wr.cell? ⟨g, o + k, none⟩ = some (.int .u8 x.toNat) := by
        obtain ⟨x, hx, hc⟩ := HC.out.get hb hlt
        have := hc 0 _ rfl
        rw [Nat.mul_one, Nat.add_zero] at this
        exact ⟨x, hx, this⟩
      by_cases h4 : k < 4000
      · go_wp2
        go_roundw
        case rel => exact ⟨k + 1, _, by omega, by go_num, rfl, hb⟩
        case measure => simp [intOf]; omega
      · go_wp2
        go_ret
        refine ⟨wr.heap.size, rfl, hb.size, by simp, ⟨_, 0, c, _, heap_new rfl, hl, fun h0 => ?_⟩, below_alloc hb _⟩
        obtain ⟨g, o, e, hg, hc⟩ := HA.out h0
        exact ⟨g, o, e, Nat.lt_of_lt_of_le hg hb.size, fun i x hx => by
          have h1 := hc i x hx 0 _ rfl
          rw [Nat.mul_one, Nat.add_zero] at h1
          exact ((below_alloc hb _).cell (p := ⟨g, o + i, none⟩) hg).trans h1⟩
    · go_wp2
      go_ret
      refine ⟨wr.heap.size, rfl, hb.size, by simp, ⟨_, 0, c, _, heap_new rfl, hl, fun h0 => ?_⟩, below_alloc hb _⟩
      obtain ⟨g, o, e, hg, hc⟩ := HA.out h0
      exact ⟨g, o, e, Nat.lt_of_lt_of_le hg hb.size, fun i x hx => by
        have h1 := hc i x hx 0 _ rfl
        rw [Nat.mul_one, Nat.add_zero] at h1
        exact ((below_alloc hb _).cell (p := ⟨g, o + i, none⟩) hg).trans h1⟩
theorem big_c (v : Value) (l : List UInt8) (w : World) (hv : RdL w 1 byteEn v l) :
    Calls Tryd.prog 12 #[v] w fun e w' => e = .returned (.bool (decide (4096 < l.length))) ∧ w = w' := by
  obtain ⟨A, c, rfl, hlc, hcm, hA⟩ := RdL.open_ hv
  have HA := hide hA
  clear hA hv
  by_cases h : 4096 < l.length
  · go_enter Tryd.func12, Tryd.ntmps12
    go_wp2
    go_ret
    exact ⟨ret_bool (by simp; omega), rfl⟩
  · go_enter Tryd.func12, Tryd.ntmps12
    go_wp2
    go_ret
    exact ⟨ret_bool (by simp; omega), rfl⟩
end Go.Proofs.YtabbgabdbkbjcaaDoor
