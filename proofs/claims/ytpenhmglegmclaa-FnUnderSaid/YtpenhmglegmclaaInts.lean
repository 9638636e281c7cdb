/- Contracts of the laws' own helpers: slices of ints. -/
import Derived.Test.YtpenhmglegmclaaMem
import Derived.Deep.QuietTactic
import Derived.BigQuiet
import Derived.Deep.AppendLies
namespace Go.Proofs.Ytpenhmglegmclaa
open Go.ChangeShapes Go.WideShapes Go.ChangeAt Go.RowKit
theorem int_get {w wr : World} {g o : Nat} {l : List Int} (h : Hid (RdFrom w 1 intEn g o l)) (hb : Below w.heap.size w wr) {k : Nat} (hk : k < l.length) :
    ∃ x, Hid (l[k]? = some x) ∧ wr.cell? ⟨g, o + k, none⟩ = some (.int .i64 x) := by
  obtain ⟨x, hx, hc⟩ := h.out.get hb hk
  have := hc 0 _ rfl
  rw [Nat.mul_one, Nat.add_zero] at this
  exact ⟨x, hx, this⟩
theorem eqIntS_c (a b : Value) (l : List Int) (w : World) (ha : RdInt w a l) (hb : RdInt w b l) :
    Calls Try.prog 23 #[a, b] w fun e w' => e = .returned (.bool true) ∧ Below w.heap.size w w' := by
  obtain ⟨A, c, rfl, _, hcm, hA⟩ := ha.open_
  obtain ⟨B, d, rfl, _, hdm, hB⟩ := hb.open_
  have HA := hide hA
  have HB := hide hB
  clear hA hB ha hb
  have hlm : l.length ≤ 9223372036854775807 := by omega
  go_enter Try.func23, Try.ntmps23
  go_wp2
  go_loopw [5] (fun i wr => ∃ k : Nat, k ≤ l.length ∧ i = .int .i64 k ∧ Below w.heap.size w wr) (fun i _ => l.length - (intOf i).toNat)
  case atStart => exact ⟨0, by omega, rfl, Below.refl _ _⟩
  case round =>
    obtain ⟨k, hk, rfl, hb⟩ := hrel
    by_cases hlt : k < l.length
    · obtain ⟨g, o, rfl, hg, HC⟩ := HA.out.at_ (by omega)
      obtain ⟨g', o', rfl, hg', HC'⟩ := HB.out.at_ (by omega)
      obtain ⟨x, HX, h0⟩ := int_get HC hb hlt
      obtain ⟨y, HY, h1⟩ := int_get HC' hb hlt
      obtain rfl : y = x := by have e1 := HX.out; rw [HY.out] at e1; simpa using e1
      go_wp2_with fail
      go_quiet (fail)
      go_wp2
      go_roundw
      case rel => exact ⟨k + 1, by omega, by go_num, below_drewN hb _⟩
      case measure => simp [intOf]; omega
    · go_wp2
      go_ret
      exact ⟨rfl, hb⟩
theorem markIntS_c (v : Value) (l : List Int) (k : Int) (base : Nat) (w : World) (h : OwnL w base 3 1 intEn v l) (hbs : base ≤ w.heap.size) (hk0 : 0 ≤ k) (hk1 : k ≤ 1099511627776) (hl : l.length ≤ 1099511627776) :
    Calls Try.prog 24 #[v, .int .i64 k] w fun e w' => e = .returned (.int .i64 (k + l.length)) ∧ OwnL w' base 3 1 intEn v (Pu.marks k l.length) ∧ Below base w w' := by
  by_cases hn : l.length = 0
  · obtain ⟨A, c, rfl⟩ := h.empty hn
    have hz := hide hn
    obtain rfl : l = [] := List.eq_nil_of_length_eq_zero hn
    go_enter Try.func24, Try.ntmps24
    go_wp2
    refine wp_loop_rounds 1 ?_
    rw [rounds_succ]
    go_wp2
    go_ret
    exact ⟨ret_int (by simp), h, Below.refl _ _⟩
  · obtain ⟨g, c, rfl, hbg, hgs, hlc, hcm⟩ := h.at_ (by omega)
    go_enter Try.func24, Try.ntmps24
    go_wp2
    go_loopw [1, 5] (fun kk i wr => ∃ j : Nat, j ≤ l.length ∧ i = .int .i64 j ∧ kk = .int .i64 (k + j) ∧ wr.ownsRow base 3 1 (.slice (some ⟨g, 0, none⟩) l.length c) l.length ((Pu.marks k j ++ l.drop j).map (.int .i64)) ∧ w.grownBy wr (some g)) (fun _ i _ => l.length - (intOf i).toNat)
    case atStart => exact ⟨0, by omega, rfl, by simp, by rw [← flat_int]; exact h, grown_refl _ _⟩
    case round =>
      obtain ⟨j, hj, rfl, rfl, hown, hgr⟩ := hrel
      by_cases hlt : j < l.length
      · have hc : wr.cell? ⟨g, j, none⟩ = some (.int .i64 l[j]) := by
          rw [World.ownsRow.cellAt hown j (by omega), List.getElem?_map, List.getElem?_append_right (by rw [Pu.marks_len]; omega), Pu.marks_len]
          simp [List.getElem?_eq_getElem hlt]
        have hf := World.ownsRow.frozenAt hown j
        obtain ⟨hs1, hs2⟩ := World.ownsRow.stored hown j (.int .i64 (k + j))
        rw [← List.map_set, Pu.marks_set hlt] at hs1
        go_wp2
        go_roundw
        case rel => exact ⟨j + 1, by omega, by go_num, by go_num, hs1, grown_trans hgr hs2⟩
        case measure => simp [intOf]; omega
      · obtain rfl : j = l.length := by omega
        go_wp2
        go_ret
        refine ⟨rfl, ?_, (Below.refl _ _).grown hgr hbs (fun k hk => by cases hk; exact hbg)⟩
        unfold OwnL
        rw [Pu.marks_len, flat_int]
        simpa using hown
/-- marks are held where they were laid -/
theorem heldIntS_c (v : Value) (n : Nat) (k : Int) (w : World) (hv : RdInt w v (Pu.marks k n)) (hk0 : 0 ≤ k) (hk1 : k ≤ 1099511627776) (hl : n ≤ 1099511627776) :
    Calls Try.prog 25 #[v, .int .i64 k] w fun e w' => e = .returned (.int .i64 (k + n)) ∧ Below w.heap.size w w' := by
  obtain ⟨A, c, rfl, hlc, hcm, hA⟩ := hv.open_
  have HA := hide hA
  clear hA hv
  rw [Pu.marks_len] at hlc
  rw [Pu.marks_len]
  go_enter Try.func25, Try.ntmps25
  go_wp2
  go_loopw [1, 5] (fun kk i wr => ∃ j : Nat, j ≤ n ∧ i = .int .i64 j ∧ kk = .int .i64 (k + j) ∧ Below w.heap.size w wr) (fun _ i _ => n - (intOf i).toNat)
  case atStart => exact ⟨0, by omega, rfl, by simp, Below.refl _ _⟩
  case round =>
    obtain ⟨j, hj, rfl, rfl, hb⟩ := hrel
    by_cases hlt : j < n
    · obtain ⟨g, o, rfl, hg, HC⟩ := HA.out.at_ (by rw [Pu.marks_len]; omega)
      obtain ⟨x, HX, h0⟩ := int_get HC hb (k := j) (by rw [Pu.marks_len]; omega)
      obtain rfl : x = k + j := by have e1 := HX.out; rw [Pu.marks_at _ _ _ hlt] at e1; simpa using e1.symm
      go_wp2
      go_roundw
      case rel => exact ⟨j + 1, by omega, by go_num, by go_num, hb⟩
      case measure => simp [intOf]; omega
    · go_wp2
      go_ret
      exact ⟨ret_int (by omega), hb⟩
end Go.Proofs.Ytpenhmglegmclaa
