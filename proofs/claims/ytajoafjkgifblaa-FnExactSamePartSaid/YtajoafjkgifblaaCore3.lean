/- Contracts: cores, 3: SameCore. -/
import Derived.Test.YtajoafjkgifblaaCore
import Derived.Deep.QuietTactic
import Derived.BigQuiet
import Derived.Test.YtajoafjkgifblaaEq2
namespace Go.Proofs.Ytajoafjkgifblaa
open Go.ChangeShapes Go.WideShapes Go.ChangeAt Go.RowKit
def Pu.sameCore (p q : Pu.CoreD) : Bool := p.kind.toList == q.kind.toList && p.on == q.on && p.broken == q.broken && p.count == q.count && (p.cells.map Pu.cellKey == q.cells.map Pu.cellKey)
theorem Pu.sameCore_false {p q : Pu.CoreD} (h : ¬ (p.kind.toList = q.kind.toList ∧ p.on = q.on ∧ p.broken = q.broken ∧ p.count = q.count ∧ p.cells.length = q.cells.length)) : Pu.sameCore p q = false := by
  rcases hs : Pu.sameCore p q
  · rfl
  · simp only [Pu.sameCore, Bool.and_eq_true, beq_iff_eq] at hs
    exact absurd ⟨hs.1.1.1.1, hs.1.1.1.2, hs.1.1.2, hs.1.2, by simpa using congrArg List.length hs.2⟩ h
set_option maxHeartbeats 1000000 in
theorem iSameCore_c (p q : Pu.CoreD) (s t : Value) (w : World) (hs : RdL w 2 cellEn s p.cells) (ht : RdL w 2 cellEn t q.cells) :
    Calls Try.prog 19 #[coreV p s, coreV q t] w fun e w' => e = .returned (.bool (Pu.sameCore p q)) ∧ Below w.heap.size w w' := by
  unfold coreV
  obtain ⟨A, c, rfl, hlc, hcm, hA⟩ := hs.open_
  obtain ⟨B, d, rfl, hld, hdm, hB⟩ := ht.open_
  have HA := hide hA
  have HB := hide hB
  clear hA hB hs ht
  have HW : Below w.heap.size w ((w.alloc (.cells #[.string p.kind, .bool p.on, .bool p.broken, .slice A p.cells.length c, .int .i64 p.count] 34)).alloc (.cells #[.string q.kind, .bool q.on, .bool q.broken, .slice B q.cells.length d, .int .i64 q.count] 34)) := below_alloc (below_alloc (Below.refl _ _) _) _
  by_cases hd : p.kind.toList = q.kind.toList ∧ p.on = q.on ∧ p.broken = q.broken ∧ p.count = q.count ∧ p.cells.length = q.cells.length
  · have HE : Hid (Pu.sameCore p q = (p.cells.map Pu.cellKey == q.cells.map Pu.cellKey)) := by
      rw [Hid, Pu.sameCore, hd.1, hd.2.1, hd.2.2.1, hd.2.2.2.1]; simp
    obtain ⟨e1, e2, e3, e4, e5⟩ := hd
    have e1' : (p.kind.toList == q.kind.toList) = true := by simp [e1]
    rw [e2, e3, e4, e5] at HW
    rw [e2, e3, e4, e5]
    have hln : q.cells.length ≤ 9223372036854775807 := by omega
    have HL := hide e5
    clear e2 e3 e4 e5 e1
    go_enter Try.func19, Try.ntmps19
    go_wp2
    go_loopw [44] (fun i wr => ∃ k : Nat, k ≤ q.cells.length ∧ i = .int .i64 k ∧ Hid ((p.cells.map Pu.cellKey).take k = (q.cells.map Pu.cellKey).take k) ∧ Below (w.heap.size + 1 + 1) ((w.alloc (.cells #[.string p.kind, .bool q.on, .bool q.broken, .slice A q.cells.length c, .int .i64 q.count] 34)).alloc (.cells #[.string q.kind, .bool q.on, .bool q.broken, .slice B q.cells.length d, .int .i64 q.count] 34)) wr) (fun i _ => q.cells.length - (intOf i).toNat)
    case atStart => exact ⟨0, by omega, rfl, rfl, Below.refl _ _⟩
    case round =>
      obtain ⟨k, hk, rfl, HT, hb⟩ := hrel
      by_cases hlt : k < q.cells.length
      · obtain ⟨g, o, rfl, hg, HC⟩ := HA.out.at_ (by rw [HL.out]; omega)
        obtain ⟨g', o', rfl, hg', HC'⟩ := HB.out.at_ (by omega)
        have hbw : Below w.heap.size w wr := HW.trans (hb.mono (by omega))
        obtain ⟨x, HX, h0, h1⟩ := cell_get HC hbw (k := k) (by rw [HL.out]; exact hlt)
        obtain ⟨y, HY, h2, h3⟩ := cell_get HC' hbw hlt
        obtain ⟨_, _, _, _, _, _⟩ := five_cells ((hb.block w.heap.size (by omega)).trans (heap_old (by simp) (heap_new rfl)))
        obtain ⟨_, _, _, _, _, _⟩ := five_cells ((hb.block (w.heap.size + 1) (by omega)).trans (heap_new (by simp)))
        have HB2 := hide hbw
        have HB3 := hide hb
        clear hb hbw HW
        go_wp2
        have hq := fun w' => neq_cell x.key y.key x.val y.val w'
        have hgu := guard_cell
        go_quiet (fail)
        go_wp2
        · go_ret
          have hk' : Pu.cellKey x ≠ Pu.cellKey y := fun e => by
            simp only [Pu.cellKey, Prod.mk.injEq] at e
            have hor := ‹_ ∨ _›
            simp [e.1, e.2] at hor
          exact ⟨ret_bool (by rw [HE.out]; simpa using Pu.map_ne HX.out HY.out hk'), below_drewN HB2.out _⟩
        · go_roundw
          case rel =>
            have hor := ‹_ ∧ _›
            simp only [Bool.not_eq_false', beq_iff_eq] at hor
            exact ⟨k + 1, by omega, by go_num, Pu.take_map HT.out HX.out HY.out (by rw [Pu.cellKey, Pu.cellKey, hor.1, hor.2]), below_drewN HB3.out _⟩
          case measure => simp [intOf]; omega
      · obtain rfl : k = q.cells.length := by omega
        go_wp2
        go_ret
        exact ⟨ret_bool (by have h := HT.out; rw [HE.out]; rw [List.take_of_length_le (by simp [HL.out]), List.take_of_length_le (by simp)] at h; simp [h]), HW.trans (hb.mono (by omega))⟩
  · go_enter Try.func19, Try.ntmps19
    go_wp2 <;> first
      | (go_ret; exact ⟨ret_bool (Pu.sameCore_false hd).symm, below_alloc (below_alloc (Below.refl _ _) _) _⟩)
      | exact absurd ⟨by assumption, by assumption, by assumption, by assumption, by have := ‹(_ != _) = false›; simp at this; omega⟩ hd
set_option maxHeartbeats 1000000 in
theorem sSameCore_c (p q : Pu.CoreD) (s t : Value) (w : World) (hs : RdL w 2 cellEn s p.cells) (ht : RdL w 2 cellEn t q.cells) :
    Calls Try.prog 17 #[coreV p s, coreV q t] w fun e w' => e = .returned (.bool (Pu.sameCore p q)) ∧ Below w.heap.size w w' := by
  unfold coreV
  obtain ⟨A, c, rfl, hlc, hcm, hA⟩ := hs.open_
  obtain ⟨B, d, rfl, hld, hdm, hB⟩ := ht.open_
  have HA := hide hA
  have HB := hide hB
  clear hA hB hs ht
  have HW : Below w.heap.size w ((w.alloc (.cells #[.string p.kind, .bool p.on, .bool p.broken, .slice A p.cells.length c, .int .i64 p.count] 34)).alloc (.cells #[.string q.kind, .bool q.on, .bool q.broken, .slice B q.cells.length d, .int .i64 q.count] 34)) := below_alloc (below_alloc (Below.refl _ _) _) _
  by_cases hd : p.kind.toList = q.kind.toList ∧ p.on = q.on ∧ p.broken = q.broken ∧ p.count = q.count ∧ p.cells.length = q.cells.length
  · have HE : Hid (Pu.sameCore p q = (p.cells.map Pu.cellKey == q.cells.map Pu.cellKey)) := by
      rw [Hid, Pu.sameCore, hd.1, hd.2.1, hd.2.2.1, hd.2.2.2.1]; simp
    obtain ⟨e1, e2, e3, e4, e5⟩ := hd
    have e1' : (p.kind.toList == q.kind.toList) = true := by simp [e1]
    rw [e2, e3, e4, e5] at HW
    rw [e2, e3, e4, e5]
    have hln : q.cells.length ≤ 9223372036854775807 := by omega
    have HL := hide e5
    clear e2 e3 e4 e5 e1
    go_enter Try.func17, Try.ntmps17
    go_wp2
    go_loopw [44] (fun i wr => ∃ k : Nat, k ≤ q.cells.length ∧ i = .int .i64 k ∧ Hid ((p.cells.map Pu.cellKey).take k = (q.cells.map Pu.cellKey).take k) ∧ Below (w.heap.size + 1 + 1) ((w.alloc (.cells #[.string p.kind, .bool q.on, .bool q.broken, .slice A q.cells.length c, .int .i64 q.count] 34)).alloc (.cells #[.string q.kind, .bool q.on, .bool q.broken, .slice B q.cells.length d, .int .i64 q.count] 34)) wr) (fun i _ => q.cells.length - (intOf i).toNat)
    case atStart => exact ⟨0, by omega, rfl, rfl, Below.refl _ _⟩
    case round =>
      obtain ⟨k, hk, rfl, HT, hb⟩ := hrel
      by_cases hlt : k < q.cells.length
      · obtain ⟨g, o, rfl, hg, HC⟩ := HA.out.at_ (by rw [HL.out]; omega)
        obtain ⟨g', o', rfl, hg', HC'⟩ := HB.out.at_ (by omega)
        have hbw : Below w.heap.size w wr := HW.trans (hb.mono (by omega))
        obtain ⟨x, HX, h0, h1⟩ := cell_get HC hbw (k := k) (by rw [HL.out]; exact hlt)
        obtain ⟨y, HY, h2, h3⟩ := cell_get HC' hbw hlt
        obtain ⟨_, _, _, _, _, _⟩ := five_cells ((hb.block w.heap.size (by omega)).trans (heap_old (by simp) (heap_new rfl)))
        obtain ⟨_, _, _, _, _, _⟩ := five_cells ((hb.block (w.heap.size + 1) (by omega)).trans (heap_new (by simp)))
        have HB2 := hide hbw
        have HB3 := hide hb
        clear hb hbw HW
        go_wp2
        have hq := fun w' => neq_cell x.key y.key x.val y.val w'
        have hgu := guard_cell
        go_quiet (fail)
        go_wp2
        · go_ret
          have hk' : Pu.cellKey x ≠ Pu.cellKey y := fun e => by
            simp only [Pu.cellKey, Prod.mk.injEq] at e
            have hor := ‹_ ∨ _›
            simp [e.1, e.2] at hor
          exact ⟨ret_bool (by rw [HE.out]; simpa using Pu.map_ne HX.out HY.out hk'), below_drewN HB2.out _⟩
        · go_roundw
          case rel =>
            have hor := ‹_ ∧ _›
            simp only [Bool.not_eq_false', beq_iff_eq] at hor
            exact ⟨k + 1, by omega, by go_num, Pu.take_map HT.out HX.out HY.out (by rw [Pu.cellKey, Pu.cellKey, hor.1, hor.2]), below_drewN HB3.out _⟩
          case measure => simp [intOf]; omega
      · obtain rfl : k = q.cells.length := by omega
        go_wp2
        go_ret
        exact ⟨ret_bool (by have h := HT.out; rw [HE.out]; rw [List.take_of_length_le (by simp [HL.out]), List.take_of_length_le (by simp)] at h; simp [h]), HW.trans (hb.mono (by omega))⟩
  · go_enter Try.func17, Try.ntmps17
    go_wp2 <;> first
      | (go_ret; exact ⟨ret_bool (Pu.sameCore_false hd).symm, below_alloc (below_alloc (Below.refl _ _) _) _⟩)
      | exact absurd ⟨by assumption, by assumption, by assumption, by assumption, by have := ‹(_ != _) = false›; simp at this; omega⟩ hd
end Go.Proofs.Ytajoafjkgifblaa
