/- Contracts: parts, 3: SamePart. -/
import Derived.Test.YtajoafjkgifblaaCore3
import Derived.Test.YtajoafjkgifblaaPart
namespace Go.Proofs.Ytajoafjkgifblaa
open Go.ChangeShapes Go.WideShapes Go.ChangeAt Go.RowKit
def layKey (c : Pu.LayerD) : List UInt8 × Int := (c.name.toList, c.count)
def Pu.samePart (p q : Pu.PartD) : Bool := Pu.sameCore p.core q.core && (p.layers.map layKey == q.layers.map layKey)
theorem Pu.samePart_len {p q : Pu.PartD} (h : ¬ p.layers.length = q.layers.length) : Pu.samePart p q = false := by
  rcases hs : Pu.samePart p q
  · rfl
  · simp only [Pu.samePart, Bool.and_eq_true, beq_iff_eq] at hs
    exact absurd (by simpa using congrArg List.length hs.2) h
set_option maxHeartbeats 2000000 in
theorem iSamePart_c (p q : Pu.PartD) (s u t v : Value) (w : World) (hs : RdL w 2 cellEn s p.core.cells) (hu : RdL w 2 layerEn u p.layers) (ht : RdL w 2 cellEn t q.core.cells) (hv : RdL w 2 layerEn v q.layers) :
    Calls Try.prog 31 #[partV p s u, partV q t v] w fun e w' => e = .returned (.bool (Pu.samePart p q)) ∧ Below w.heap.size w w' := by
  unfold partV
  obtain ⟨A, c, rfl, hlc, hcm, hA⟩ := hu.open_
  obtain ⟨B, d, rfl, hld, hdm, hB⟩ := hv.open_
  have HA := hide hA
  have HB := hide hB
  have HS := hide hs
  have HT := hide ht
  clear hA hB hs ht hu hv
  have HW : Below w.heap.size w ((w.alloc (.cells #[.string p.core.kind, .bool p.core.on, .bool p.core.broken, s, .int .i64 p.core.count, .slice A p.layers.length c] 41)).alloc (.cells #[.string q.core.kind, .bool q.core.on, .bool q.core.broken, t, .int .i64 q.core.count, .slice B q.layers.length d] 41)) := below_alloc (below_alloc (Below.refl _ _) _) _
  have hlp : p.layers.length ≤ 9223372036854775807 := by omega
  have hlq : q.layers.length ≤ 9223372036854775807 := by omega
  go_enter Try.func31, Try.ntmps31
  go_wp2_with fail
  refine (iSameCore_c p.core q.core s t _ (RdL.below HS.out HW (Nat.le_refl _)) (RdL.below HT.out HW (Nat.le_refl _))).mono ?_; rintro e w1 ⟨rfl, hb1⟩
  have Y0 := hide ((hb1.block w.heap.size (by simp; omega)).trans (heap_old (by simp) (heap_new rfl)))
  have Y1 := hide ((hb1.block (w.heap.size + 1) (by simp)).trans (heap_new (by simp)))
  have hs1 : w.heap.size + 1 < w1.heap.size := by have := hb1.size; simp at this; omega
  have B1 : Below w.heap.size w w1 := HW.trans (hb1.mono (by simp; omega))
  obtain ⟨_, _, _, _, _, _, _⟩ := six_cells Y0.out
  obtain ⟨_, _, _, _, _, _, _⟩ := six_cells Y1.out
  clear hb1 HW
  rcases hsc : Pu.sameCore p.core q.core
  · have HE : Hid (Pu.samePart p q = false) := by rw [Hid, Pu.samePart, hsc]; rfl
    go_wp2_with fail
    go_ret
    exact ⟨ret_bool HE.out.symm, B1⟩
  have HE : Hid (Pu.samePart p q = (p.layers.map layKey == q.layers.map layKey)) := by rw [Hid, Pu.samePart, hsc]; rfl
  clear hsc
  by_cases hl : p.layers.length = q.layers.length
  · have HL := hide hl
    rw [hl]
    go_wp2
    go_loopw [24] (fun i wr => ∃ k : Nat, k ≤ q.layers.length ∧ i = .int .i64 k ∧ Hid ((p.layers.map layKey).take k = (q.layers.map layKey).take k) ∧ Below w1.heap.size w1 wr) (fun i _ => q.layers.length - (intOf i).toNat)
    case atStart => exact ⟨0, by omega, rfl, rfl, Below.refl _ _⟩
    case round =>
      obtain ⟨k, hk, rfl, HT, hb⟩ := hrel
      by_cases hlt : k < q.layers.length
      · obtain ⟨g, o, rfl, hg, HC⟩ := HA.out.at_ (by rw [HL.out]; omega)
        obtain ⟨g', o', rfl, hg', HC'⟩ := HB.out.at_ (by omega)
        have hbw : Below w.heap.size w wr := below_then B1 hb
        obtain ⟨x, HX, h0, h1⟩ := layer_get HC hbw (k := k) (by rw [HL.out]; exact hlt)
        obtain ⟨y, HY, h2, h3⟩ := layer_get HC' hbw hlt
        obtain ⟨_, _, _, _, _, _, _⟩ := six_cells ((hb.block w.heap.size (by omega)).trans Y0.out)
        obtain ⟨_, _, _, _, _, _, _⟩ := six_cells ((hb.block (w.heap.size + 1) (by omega)).trans Y1.out)
        have HB2 := hide hbw
        have HB3 := hide hb
        clear hb hbw
        go_wp2
        have hq := fun w' => neq_layer x.name y.name x.count y.count w'
        have hgu := guard_layer
        go_quiet (fail)
        go_wp2
        · go_ret
          have hk' : layKey x ≠ layKey y := fun e => by
            simp only [layKey, Prod.mk.injEq] at e
            have hor := ‹_ ∨ _›
            simp [e.1, e.2] at hor
          exact ⟨ret_bool (by rw [HE.out]; simpa using Pu.map_ne HX.out HY.out hk'), below_drewN HB2.out _⟩
        · go_roundw
          case rel =>
            have hor := ‹_ ∧ _›
            simp only [Bool.not_eq_false', beq_iff_eq] at hor
            exact ⟨k + 1, by omega, by go_num, Pu.take_map HT.out HX.out HY.out (by rw [layKey, layKey, hor.1, hor.2]), below_drewN HB3.out _⟩
          case measure => simp [intOf]; omega
      · obtain rfl : k = q.layers.length := by omega
        go_wp2
        go_ret
        exact ⟨ret_bool (by have h := HT.out; rw [HE.out]; rw [List.take_of_length_le (by simp [HL.out]), List.take_of_length_le (by simp)] at h; simp [h]), below_then B1 hb⟩
  · have HF := hide (Pu.samePart_len hl)
    have hl' : ¬ (p.layers.length : Int) = (q.layers.length : Int) := by omega
    go_wp2_with fail
    go_ret
    exact ⟨ret_bool HF.out.symm, B1⟩
set_option maxHeartbeats 2000000 in
theorem sSamePart_c (p q : Pu.PartD) (s u t v : Value) (w : World) (hs : RdL w 2 cellEn s p.core.cells) (hu : RdL w 2 layerEn u p.layers) (ht : RdL w 2 cellEn t q.core.cells) (hv : RdL w 2 layerEn v q.layers) :
    Calls Try.prog 29 #[partV p s u, partV q t v] w fun e w' => e = .returned (.bool (Pu.samePart p q)) ∧ Below w.heap.size w w' := by
  unfold partV
  obtain ⟨A, c, rfl, hlc, hcm, hA⟩ := hu.open_
  obtain ⟨B, d, rfl, hld, hdm, hB⟩ := hv.open_
  have HA := hide hA
  have HB := hide hB
  have HS := hide hs
  have HT := hide ht
  clear hA hB hs ht hu hv
  have HW : Below w.heap.size w ((w.alloc (.cells #[.string p.core.kind, .bool p.core.on, .bool p.core.broken, s, .int .i64 p.core.count, .slice A p.layers.length c] 41)).alloc (.cells #[.string q.core.kind, .bool q.core.on, .bool q.core.broken, t, .int .i64 q.core.count, .slice B q.layers.length d] 41)) := below_alloc (below_alloc (Below.refl _ _) _) _
  have hlp : p.layers.length ≤ 9223372036854775807 := by omega
  have hlq : q.layers.length ≤ 9223372036854775807 := by omega
  go_enter Try.func29, Try.ntmps29
  go_wp2_with fail
  refine (sSameCore_c p.core q.core s t _ (RdL.below HS.out HW (Nat.le_refl _)) (RdL.below HT.out HW (Nat.le_refl _))).mono ?_; rintro e w1 ⟨rfl, hb1⟩
  have Y0 := hide ((hb1.block w.heap.size (by simp; omega)).trans (heap_old (by simp) (heap_new rfl)))
  have Y1 := hide ((hb1.block (w.heap.size + 1) (by simp)).trans (heap_new (by simp)))
  have hs1 : w.heap.size + 1 < w1.heap.size := by have := hb1.size; simp at this; omega
  have B1 : Below w.heap.size w w1 := HW.trans (hb1.mono (by simp; omega))
  obtain ⟨_, _, _, _, _, _, _⟩ := six_cells Y0.out
  obtain ⟨_, _, _, _, _, _, _⟩ := six_cells Y1.out
  clear hb1 HW
  rcases hsc : Pu.sameCore p.core q.core
  · have HE : Hid (Pu.samePart p q = false) := by rw [Hid, Pu.samePart, hsc]; rfl
    go_wp2_with fail
    go_ret
    exact ⟨ret_bool HE.out.symm, B1⟩
  have HE : Hid (Pu.samePart p q = (p.layers.map layKey == q.layers.map layKey)) := by rw [Hid, Pu.samePart, hsc]; rfl
  clear hsc
  by_cases hl : p.layers.length = q.layers.length
  · have HL := hide hl
    rw [hl]
    go_wp2
    go_loopw [24] (fun i wr => ∃ k : Nat, k ≤ q.layers.length ∧ i = .int .i64 k ∧ Hid ((p.layers.map layKey).take k = (q.layers.map layKey).take k) ∧ Below w1.heap.size w1 wr) (fun i _ => q.layers.length - (intOf i).toNat)
    case atStart => exact ⟨0, by omega, rfl, rfl, Below.refl _ _⟩
    case round =>
      obtain ⟨k, hk, rfl, HT, hb⟩ := hrel
      by_cases hlt : k < q.layers.length
      · obtain ⟨g, o, rfl, hg, HC⟩ := HA.out.at_ (by rw [HL.out]; omega)
        obtain ⟨g', o', rfl, hg', HC'⟩ := HB.out.at_ (by omega)
        have hbw : Below w.heap.size w wr := below_then B1 hb
        obtain ⟨x, HX, h0, h1⟩ := layer_get HC hbw (k := k) (by rw [HL.out]; exact hlt)
        obtain ⟨y, HY, h2, h3⟩ := layer_get HC' hbw hlt
        obtain ⟨_, _, _, _, _, _, _⟩ := six_cells ((hb.block w.heap.size (by omega)).trans Y0.out)
        obtain ⟨_, _, _, _, _, _, _⟩ := six_cells ((hb.block (w.heap.size + 1) (by omega)).trans Y1.out)
        have HB2 := hide hbw
        have HB3 := hide hb
        clear hb hbw
        go_wp2
        have hq := fun w' => neq_layer x.name y.name x.count y.count w'
        have hgu := guard_layer
        go_quiet (fail)
        go_wp2
        · go_ret
          have hk' : layKey x ≠ layKey y := fun e => by
            simp only [layKey, Prod.mk.injEq] at e
            have hor := ‹_ ∨ _›
            simp [e.1, e.2] at hor
          exact ⟨ret_bool (by rw [HE.out]; simpa using Pu.map_ne HX.out HY.out hk'), below_drewN HB2.out _⟩
        · go_roundw
          case rel =>
            have hor := ‹_ ∧ _›
            simp only [Bool.not_eq_false', beq_iff_eq] at hor
            exact ⟨k + 1, by omega, by go_num, Pu.take_map HT.out HX.out HY.out (by rw [layKey, layKey, hor.1, hor.2]), below_drewN HB3.out _⟩
          case measure => simp [intOf]; omega
      · obtain rfl : k = q.layers.length := by omega
        go_wp2
        go_ret
        exact ⟨ret_bool (by have h := HT.out; rw [HE.out]; rw [List.take_of_length_le (by simp [HL.out]), List.take_of_length_le (by simp)] at h; simp [h]), below_then B1 hb⟩
  · have HF := hide (Pu.samePart_len hl)
    have hl' : ¬ (p.layers.length : Int) = (q.layers.length : Int) := by omega
    go_wp2_with fail
    go_ret
    exact ⟨ret_bool HF.out.symm, B1⟩
end Go.Proofs.Ytajoafjkgifblaa
