/- Contracts of the laws' own helpers: the marks of cells. -/
import Derived.Test.YtabbgabdbkbjcaaDoorMark
import Derived.Deep.RegionHeld3
namespace Go.Proofs.YtabbgabdbkbjcaaDoor
open Go.ChangeShapes Go.WideShapes Go.ChangeAt Go.RowKit
set_option maxRecDepth 100000
def Pu.gC (k : Int) (j : Nat) : Pu.CellD := ⟨Pu.markT (k + 2 * j), k + 2 * j + 1⟩
theorem Pu.gC_set {l : List Pu.CellD} {k : Int} {j : Nat} (h : j < l.length) :
    ((((Pu.gen (Pu.gC k) j ++ l.drop j).flatMap cellEn).set (j * 2) (.string (Pu.markT (k + 2 * j)))).set (j * 2 + 1) (.int .i64 (k + 2 * j + 1))) = (Pu.gen (Pu.gC k) (j + 1) ++ l.drop (j + 1)).flatMap cellEn := by
  have e1 : ((Pu.gen (Pu.gC k) j).flatMap cellEn).length = j * 2 := by rw [flat_len (size := 2) (fun _ => rfl), Pu.gen_len]
  rw [List.drop_eq_getElem_cons h, List.flatMap_append, List.flatMap_cons, Pu.gen_succ, List.append_assoc, List.flatMap_append, List.flatMap_append]
  rw [List.set_append_right _ _ (by omega), List.set_append_right _ _ (by omega), e1]
  simp [cellEn, Pu.gC]
set_option maxHeartbeats 400000 in
set_option maxRecDepth 100000 in
theorem markCellS_c (v : Value) (l : List Pu.CellD) (k : Int) (base : Nat) (w : World) (h : OwnL w base 62 2 cellEn v l) (hk0 : 1 ≤ k) (hk1 : k ≤ 4294967296) (hl : l.length ≤ 4294967296) :
    Calls Tryd.prog 25 #[v, .int .i64 k] w fun e w' => e = .returned (.int .i64 (k + 2 * l.length)) ∧ OwnL w' base 62 2 cellEn v (Pu.gen (Pu.gC k) l.length) ∧ w.grownBy w' v.ownBlock := by
  by_cases hn : l.length = 0
  · obtain ⟨A, c, rfl⟩ := h.empty hn
    have hz := hide hn
    obtain rfl : l = [] := List.eq_nil_of_length_eq_zero hn
    go_enter Tryd.func25, Tryd.ntmps25
    go_wp2
    refine wp_loop_rounds 1 ?_
    rw [rounds_succ]
    go_wp2
    go_ret
    exact ⟨ret_int (by simp), h, grown_refl _ _⟩
  · obtain ⟨g, c, rfl, hbg, hgs, hlc, hcm⟩ := h.at_ (by omega)
    go_enter Tryd.func25, Tryd.ntmps25
    go_wp2
    go_loopw [1, 5] (fun kk i wr => ∃ j : Nat, j ≤ l.length ∧ i = .int .i64 j ∧ kk = .int .i64 (k + 2 * j) ∧ wr.ownsRow base 62 2 (.slice (some ⟨g, 0, none⟩) l.length c) l.length ((Pu.gen (Pu.gC k) j ++ l.drop j).flatMap cellEn) ∧ w.grownBy wr (some g)) (fun _ i _ => l.length - (intOf i).toNat)
    case atStart => exact ⟨0, by omega, rfl, by simp, by have h' : w.ownsRow base 62 2 _ _ (l.flatMap cellEn) := h; simpa [Pu.gen] using h', grown_refl _ _⟩
    case round =>
      obtain ⟨j, hj, rfl, rfl, hown, hgr⟩ := hrel
      by_cases hlt : j < l.length
      · go_wp2_with fail
        refine (markText_c _ _ (by omega) (by omega)).mono ?_; rintro e w2 ⟨rfl, hb2⟩
        have hown2 := row_below hown hb2
        have hat : (Pu.gen (Pu.gC k) j ++ l.drop j)[j]? = some l[j] := by
          rw [List.getElem?_append_right (by rw [Pu.gen_len]; omega), Pu.gen_len]
          simp [List.getElem?_eq_getElem hlt]
        have hc0 : w2.cell? ⟨g, j * 2, none⟩ = some (.string l[j].key) := by
          rw [World.ownsRow.cellAt hown2 (j * 2) (by omega)]
          have := flat_at (en := cellEn) (size := 2) (fun _ => rfl) hat (j := 0) (u := .string l[j].key) rfl
          simpa using this
        have hc1 : w2.cell? ⟨g, j * 2 + 1, none⟩ = some (.int .i64 l[j].val) := by
          rw [World.ownsRow.cellAt hown2 (j * 2 + 1) (by omega)]
          exact flat_at (en := cellEn) (size := 2) (fun _ => rfl) hat (j := 1) rfl
        have hf0 := World.ownsRow.frozenAt hown2 (j * 2)
        have hf1 := World.ownsRow.frozenAt hown2 (j * 2 + 1)
        obtain ⟨hs1, hs2⟩ := World.ownsRow.stored hown2 (j * 2) (.string (Pu.markT (k + 2 * j)))
        obtain ⟨ht1, ht2⟩ := World.ownsRow.stored hs1 (j * 2 + 1) (.int .i64 (k + 2 * j + 1))
        rw [Pu.gC_set hlt] at ht1
        have HS1 := hide ht1
        have HG := hide (grown_trans (grown_trans (grown_trans hgr (grown_of hb2 _)) hs2) ht2)
        clear hs1 hs2 ht1 ht2 hown hown2 hgr hat hb2
        go_wp2
        go_roundw
        case rel => exact ⟨j + 1, by omega, by go_num, by go_num, HS1.out, HG.out⟩
        case measure => simp [intOf]; omega
      · obtain rfl : j = l.length := by omega
        go_wp2
        go_ret
        refine ⟨rfl, ?_, hgr⟩
        unfold OwnL
        rw [Pu.gen_len]
        simpa using hown
set_option maxHeartbeats 400000 in
set_option maxRecDepth 100000 in
theorem heldCellS_c (v : Value) (n : Nat) (k : Int) (w : World) (hv : RdL w 2 cellEn v (Pu.gen (Pu.gC k) n)) (hk0 : 1 ≤ k) (hk1 : k ≤ 4294967296) (hl : n ≤ 4294967296) :
    Calls Tryd.prog 26 #[v, .int .i64 k] w fun e w' => e = .returned (.int .i64 (k + 2 * n)) ∧ Below w.heap.size w w' := by
  obtain ⟨A, c, rfl, hlc, hcm, hA⟩ := hv.open_
  have HA := hide hA
  clear hA hv
  rw [Pu.gen_len] at hlc
  rw [Pu.gen_len]
  go_enter Tryd.func26, Tryd.ntmps26
  go_wp2
  go_loopw [1, 5] (fun kk i wr => ∃ j : Nat, j ≤ n ∧ i = .int .i64 j ∧ kk = .int .i64 (k + 2 * j) ∧ Below w.heap.size w wr) (fun _ i _ => n - (intOf i).toNat)
  case atStart => exact ⟨0, by omega, rfl, by simp, Below.refl _ _⟩
  case round =>
    obtain ⟨j, hj, rfl, rfl, hb⟩ := hrel
    by_cases hlt : j < n
    · obtain ⟨g, o, rfl, hg, HC⟩ := HA.out.at_ (by rw [Pu.gen_len]; omega)
      obtain ⟨x, HX, h0, h1⟩ := cell_get HC hb (k := j) (by rw [Pu.gen_len]; omega)
      obtain rfl : x = Pu.gC k j := by have e1 := HX.out; rw [Pu.gen_at hlt] at e1; simpa using e1.symm
      have h0' : wr.cell? ⟨g, o + j * 2, none⟩ = some (.string (Pu.markT (k + 2 * j))) := h0
      have h1' : wr.cell? ⟨g, o + j * 2 + 1, none⟩ = some (.int .i64 (k + 2 * j + 1)) := h1
      have hgr : g < wr.heap.size := Nat.lt_of_lt_of_le hg hb.size
      have K0 : Below wr.heap.size wr wr := Below.refl _ _
      have KD : ∀ w' : World, Below wr.heap.size wr w' → Below wr.heap.size wr w'.drew := fun _ h => h.drew
      have HB := hide hb
      clear hb h0 h1
      go_wp2_with fail
      go_region_held3 (fun w' => Below wr.heap.size wr w' ∧ w'.cell? ⟨g, o + j * 2, none⟩ = some (.string (Pu.markT (k + 2 * j))) ∧ w'.cell? ⟨g, o + j * 2 + 1, none⟩ = some (.int .i64 (k + 2 * j + 1))) (go_keep)
        (first | (go_at_call 28; refine (markText_c _ _ (by omega) (by omega)).mono ?_; rintro e WX ⟨rfl, bX⟩;
                     have KW : Below wr.heap.size wr WX := below_then (And.left (by assumption)) bX;
                     have KX : ∀ i : Nat, WX.cell? ⟨g, i, none⟩ = _ := fun i => bX.cell (Nat.lt_of_lt_of_le hgr (Below.size (And.left (by assumption))))))
      go_wp2
      go_roundw
      case rel => exact ⟨j + 1, by omega, by go_num, by go_num, below_then HB.out KW⟩
      case measure => simp [intOf]; omega
    · go_wp2
      go_ret
      exact ⟨ret_int (by omega), hb⟩
end Go.Proofs.YtabbgabdbkbjcaaDoor
