/- Contracts of the laws' own helpers: lists of calls and of replies. Written by wip/tools/markgen.py. -/
import Derived.Test.YtllmcnmongaahaaGreatDoorCalls
import Derived.Test.YtllmcnmongaahaaGreatDoorM0
import Derived.Test.YtllmcnmongaahaaGreatDoorEqCall
namespace Go.Proofs.YtllmcnmongaahaaGreatDoor
open Go.ChangeShapes Go.WideShapes Go.ChangeAt Go.RowKit
set_option maxRecDepth 100000
set_option linter.unusedVariables false
theorem reply_get {w wr : World} {g o : Nat} {l : List Pu.ReplyD} (h : Hid (RdFrom w 5 replyEn g o l)) (hb : Below w.heap.size w wr) {k : Nat} (hk : k < l.length) :
    ∃ x, Hid (l[k]? = some x) ∧ wr.cell? ⟨g, o + k * 5, none⟩ = some (.int .i64 x.code) ∧ wr.cell? ⟨g, o + k * 5 + 1, none⟩ = some (.int .i64 x.value) ∧ wr.cell? ⟨g, o + k * 5 + 2, none⟩ = some (.string x.text) ∧ wr.cell? ⟨g, o + k * 5 + 3, none⟩ = some (.int .i64 x.want) ∧ wr.cell? ⟨g, o + k * 5 + 4, none⟩ = some (.int .i64 x.had) := by
  obtain ⟨x, hx, hc⟩ := h.out.get hb hk
  exact ⟨x, hx, hc 0 _ rfl, hc 1 _ rfl, hc 2 _ rfl, hc 3 _ rfl, hc 4 _ rfl⟩
def Pu.gR (k : Int) (j : Nat) : Pu.ReplyD := ⟨k + 5 * j, k + 5 * j + 1, Pu.markT (k + 5 * j + 1 + 1), k + 5 * j + 1 + 1 + 1, k + 5 * j + 1 + 1 + 1 + 1⟩
theorem Pu.gR_set {l : List Pu.ReplyD} {k : Int} {j : Nat} (h : j < l.length) :
    ((((((Pu.gen (Pu.gR k) j ++ l.drop j).flatMap replyEn).set (j * 5) (.int .i64 (k + 5 * j))).set (j * 5 + 1) (.int .i64 (k + 5 * j + 1))).set (j * 5 + 2) (.string (Pu.markT (k + 5 * j + 1 + 1)))).set (j * 5 + 3) (.int .i64 (k + 5 * j + 1 + 1 + 1))).set (j * 5 + 4) (.int .i64 (k + 5 * j + 1 + 1 + 1 + 1)) = (Pu.gen (Pu.gR k) (j + 1) ++ l.drop (j + 1)).flatMap replyEn := by
  have e1 : ((Pu.gen (Pu.gR k) j).flatMap replyEn).length = j * 5 := by rw [flat_len (size := 5) (fun _ => rfl), Pu.gen_len]
  rw [List.drop_eq_getElem_cons h, List.flatMap_append, List.flatMap_cons, Pu.gen_succ, List.append_assoc, List.flatMap_append, List.flatMap_append]
  rw [List.set_append_right _ _ (by omega), List.set_append_right _ _ (by omega), List.set_append_right _ _ (by omega), List.set_append_right _ _ (by omega), List.set_append_right _ _ (by omega), e1]
  simp [replyEn, Pu.gR]
theorem szCallS_c (v : Value) (l : List Pu.CallD) (left : Int) (w : World) (hv : RdL w 4 callEn v l) (hw : ∀ x ∈ l, CallD.wf x) (h0 : 0 ≤ left) (h1 : left ≤ 1048576) :
    Calls Tryz.prog 21 #[v, .int .i64 left] w fun e w' => (e = .returned (.int .i64 (-1)) ∨ ∃ n : Int, 0 ≤ n ∧ n ≤ 1048576 ∧ l.length ≤ 1048576 ∧ (∀ x ∈ l, x.text.size ≤ 1048576) ∧ e = .returned (.int .i64 n)) ∧ Below w.heap.size w w' := by
  obtain ⟨A, c, rfl, hlc, hcm, hA⟩ := hv.open_
  have HA := hide hA
  have HW := hide hw
  clear hA hv hw
  by_cases hll : (l.length : Int) ≤ left
  · have hll' : ¬ left - (l.length : Int) < 0 := by omega
    go_enter Tryz.func21, Tryz.ntmps21
    go_wp2
    go_loopw [1, 5] (fun lf i wr => ∃ (k : Nat) (n : Int), k ≤ l.length ∧ i = .int .i64 k ∧ lf = .int .i64 n ∧ 0 ≤ n ∧ n ≤ 1048576 ∧ Hid (∀ x ∈ l.take k, x.text.size ≤ 1048576) ∧ Below w.heap.size w wr) (fun _ i _ => l.length - (intOf i).toNat)
    case atStart => exact ⟨0, left - l.length, by omega, rfl, rfl, by omega, by omega, (fun x hx => by cases hx), Below.refl _ _⟩
    case round =>
      obtain ⟨k, n, hk, rfl, rfl, hn0, hn1, HTX, hb⟩ := hrel
      by_cases hlt : k < l.length
      · obtain ⟨g, o, rfl, hg, HC⟩ := HA.out.at_ (by omega)
        obtain ⟨x, HX, h2, h3, h4, h5⟩ := call_get HC hb hlt
        have hxm := hide (HW.out x (List.mem_of_getElem? HX.out))
        go_wp2_with fail
        refine (szCall3_c x _ _ hxm.out hn0 hn1).mono ?_; rintro e w1 ⟨he, hb1⟩
        rcases he with rfl | ⟨m, hm0, hm1, htx, rfl⟩
        · go_wp2
          go_ret
          exact ⟨.inl rfl, below_then hb hb1⟩
        · have hmn : ¬ m < 0 := by omega
          have HTX2 : Hid (∀ y ∈ l.take (k + 1), y.text.size ≤ 1048576) := by
            intro y hy
            rw [List.take_add_one, HX.out] at hy
            rcases List.mem_append.1 hy with hy | hy
            · exact HTX.out y hy
            · obtain rfl : y = x := (by simpa using hy)
              exact htx
          clear htx
          go_wp2
          go_roundw
          case rel => exact ⟨k + 1, m, by omega, by go_num, rfl, hm0, hm1, HTX2, below_then hb hb1⟩
          case measure => simp [intOf]; omega
      · obtain rfl : k = l.length := by omega
        go_wp2
        go_ret
        exact ⟨.inr ⟨n, hn0, hn1, by omega, fun x hx => HTX.out x (by rw [List.take_of_length_le (Nat.le_refl _)]; exact hx), rfl⟩, hb⟩
  · go_enter Tryz.func21, Tryz.ntmps21
    go_wp2
    go_ret
    exact ⟨.inl rfl, Below.refl _ _⟩
set_option maxRecDepth 100000 in
theorem eqCallS_c (a b : Value) (l : List Pu.CallD) (w : World) (ha : RdL w 4 callEn a l) (hb : RdL w 4 callEn b l) :
    Calls Tryz.prog 26 #[a, b] w fun e w' => e = .returned (.bool true) ∧ Below w.heap.size w w' := by
  obtain ⟨A, c, rfl, _, hcm, hA⟩ := ha.open_
  obtain ⟨B, d, rfl, _, hdm, hB⟩ := hb.open_
  have HA := hide hA
  have HB := hide hB
  clear hA hB ha hb
  have hln : l.length ≤ 9223372036854775807 := by omega
  go_enter Tryz.func26, Tryz.ntmps26
  go_wp2
  go_loopw [5] (fun i wr => ∃ k : Nat, k ≤ l.length ∧ i = .int .i64 k ∧ Below w.heap.size w wr) (fun i _ => l.length - (intOf i).toNat)
  case atStart => exact ⟨0, by omega, rfl, Below.refl _ _⟩
  case round =>
    obtain ⟨k, hk, rfl, hb⟩ := hrel
    by_cases hlt : k < l.length
    · obtain ⟨g, o, rfl, hg, HC⟩ := HA.out.at_ (by omega)
      obtain ⟨g', o', rfl, hg', HC'⟩ := HB.out.at_ (by omega)
      obtain ⟨x, HX, h0, h1, h2, h3⟩ := call_get HC hb hlt
      obtain ⟨y, HY, p0, p1, p2, p3⟩ := call_get HC' hb hlt
      obtain rfl : x = y := Option.some.inj (HX.out.symm.trans HY.out)
      go_wp2_with fail
      go_still_tail 8, (by kernel_rfl)
      change wpList _ _ _ _ _ wr.drew
      go_wp2_with fail
      refine (eqCall_c x _).mono ?_; rintro e w1 ⟨rfl, hb1⟩
      go_wp2
      go_roundw
      case rel => exact ⟨k + 1, by omega, by go_num, below_then hb.drew hb1⟩
      case measure => simp [intOf]; omega
    · go_wp2
      go_ret
      exact ⟨rfl, hb⟩
set_option maxRecDepth 100000 in
theorem eqReplyS_c (a b : Value) (l : List Pu.ReplyD) (w : World) (ha : RdL w 5 replyEn a l) (hb : RdL w 5 replyEn b l) :
    Calls Tryz.prog 25 #[a, b] w fun e w' => e = .returned (.bool true) ∧ Below w.heap.size w w' := by
  obtain ⟨A, c, rfl, _, hcm, hA⟩ := ha.open_
  obtain ⟨B, d, rfl, _, hdm, hB⟩ := hb.open_
  have HA := hide hA
  have HB := hide hB
  clear hA hB ha hb
  have hln : l.length ≤ 9223372036854775807 := by omega
  go_enter Tryz.func25, Tryz.ntmps25
  go_wp2
  go_loopw [5] (fun i wr => ∃ k : Nat, k ≤ l.length ∧ i = .int .i64 k ∧ Below w.heap.size w wr) (fun i _ => l.length - (intOf i).toNat)
  case atStart => exact ⟨0, by omega, rfl, Below.refl _ _⟩
  case round =>
    obtain ⟨k, hk, rfl, hb⟩ := hrel
    by_cases hlt : k < l.length
    · obtain ⟨g, o, rfl, hg, HC⟩ := HA.out.at_ (by omega)
      obtain ⟨g', o', rfl, hg', HC'⟩ := HB.out.at_ (by omega)
      obtain ⟨x, HX, h0, h1, h2, h3, h4⟩ := reply_get HC hb hlt
      obtain ⟨y, HY, p0, p1, p2, p3, p4⟩ := reply_get HC' hb hlt
      obtain rfl : x = y := Option.some.inj (HX.out.symm.trans HY.out)
      go_wp2_with fail
      go_still_tail 8, (by kernel_rfl)
      change wpList _ _ _ _ _ wr.drew
      go_wp2_with fail
      refine (eqReply_c x _).mono ?_; rintro e w1 ⟨rfl, hb1⟩
      go_wp2
      go_roundw
      case rel => exact ⟨k + 1, by omega, by go_num, below_then hb.drew hb1⟩
      case measure => simp [intOf]; omega
    · go_wp2
      go_ret
      exact ⟨rfl, hb⟩
set_option maxHeartbeats 400000 in
theorem toCallS_c (v : Value) (l : List Pu.CallD) (w : World) (hv : RdL w 4 callEn v l) (hl : l.length ≤ 1048576) :
    Calls Tryz.prog 23 #[v] w fun e w' => ∃ v', e = .returned v' ∧ OwnL w' w.heap.size 37 4 callEn v' l ∧ Below w.heap.size w w' := by
  obtain ⟨A, c, rfl, hlc, hcm, hA⟩ := hv.open_
  have HA := hide hA
  clear hA hv
  obtain ⟨i0, hi, hz0, hz1, hz2⟩ := info_parts info_call
  go_enter Tryz.func23, Tryz.ntmps23
  go_wp2_with (at_make; refine wpList_make_full _ rfl _ _ 48 rfl w.heap.size 37 i0 _ 4 Tryz.underlying48 hi hz0 hz1 .i64 .i64 _ _ l.length rfl rfl rfl rfl (by rw [hz2]; omega) (by unfold maxLen; omega) (Nat.le_refl _) ?_; intro w1 hown1 hg1)
  obtain ⟨Z, HZ⟩ : ∃ Z, Hid ((madeCells (Value.agg #[.string ByteArray.empty, .string ByteArray.empty, .int .i64 0, .string ByteArray.empty]).cells (l.length * 4)).toList = Z) := ⟨_, rfl⟩
  have hzl : Hid (Z.length = l.length * 4) := by rw [← HZ.out, Hid]; have := hown1.1; simpa using this
  rw [HZ.out] at hown1
  have HP := hide (show (l.flatMap callEn).length = Z.length by rw [flat_len (size := 4) (fun _ => rfl)]; exact hzl.out.symm)
  have hb1 : Below w.heap.size w w1 := (Below.refl _ _).grown hg1 (Nat.le_refl _) (fun k hk => by cases hk)
  have hs1 : w.heap.size < w1.heap.size := own_lt hown1
  go_loopw [4] (fun i wr => ∃ k : Nat, k ≤ l.length ∧ i = .int .i64 k ∧ wr.ownsRow w.heap.size 37 4 (.slice (some ⟨w.heap.size, 0, none⟩) l.length l.length) l.length ((l.flatMap callEn).take (k * 4) ++ Z.drop (k * 4)) ∧ Below w.heap.size w wr) (fun i _ => l.length - (intOf i).toNat)
  case atStart => exact ⟨0, by omega, rfl, by simpa using hown1, hb1⟩
  case round =>
    obtain ⟨k, hk, rfl, hown, hb⟩ := hrel
    by_cases hlt : k < l.length
    · obtain ⟨g, o, rfl, hg, HC⟩ := HA.out.at_ (by omega)
      obtain ⟨x, HX, h0, h1, h2, h3⟩ := call_get HC hb hlt
      go_wp2_with fail
      refine (toCall_c x _).mono ?_; rintro e w2 ⟨rfl, hb2⟩
      have hown2 := row_below hown hb2
      have hkz : k * 4 + 3 < Z.length := by rw [hzl.out]; omega
      have hP0 : (l.flatMap callEn)[k * 4]? = some (.string x.method) := by have := flat_at (en := callEn) (size := 4) (fun _ => rfl) HX.out (j := 0) (u := .string x.method) rfl; simpa using this
      have hP1 : (l.flatMap callEn)[k * 4 + 1]? = some (.string x.key) := flat_at (en := callEn) (size := 4) (fun _ => rfl) HX.out (j := 1) rfl
      have hP2 : (l.flatMap callEn)[k * 4 + 2]? = some (.int .i64 x.value) := flat_at (en := callEn) (size := 4) (fun _ => rfl) HX.out (j := 2) rfl
      have hP3 : (l.flatMap callEn)[k * 4 + 3]? = some (.string x.text) := flat_at (en := callEn) (size := 4) (fun _ => rfl) HX.out (j := 3) rfl
      have hc0 : w2.cell? ⟨w.heap.size, k * 4, none⟩ = some Z[k * 4] := by
        rw [World.ownsRow.cellAt hown2 (k * 4) (by omega), Pu.mid_at (by omega) HP.out]
      have hc1 : w2.cell? ⟨w.heap.size, k * 4 + 1, none⟩ = some Z[k * 4 + 1] := by
        rw [World.ownsRow.cellAt hown2 (k * 4 + 1) (by omega), List.getElem?_append_right (by rw [List.length_take]; omega), List.length_take, List.getElem?_drop]
        have hpl := HP.out
        rw [Nat.min_eq_left (by omega), show k * 4 + (k * 4 + 1 - k * 4) = k * 4 + 1 by omega]
        exact List.getElem?_eq_getElem (by omega)
      have hc2 : w2.cell? ⟨w.heap.size, k * 4 + 2, none⟩ = some Z[k * 4 + 2] := by
        rw [World.ownsRow.cellAt hown2 (k * 4 + 2) (by omega), List.getElem?_append_right (by rw [List.length_take]; omega), List.length_take, List.getElem?_drop]
        have hpl := HP.out
        rw [Nat.min_eq_left (by omega), show k * 4 + (k * 4 + 2 - k * 4) = k * 4 + 2 by omega]
        exact List.getElem?_eq_getElem (by omega)
      have hc3 : w2.cell? ⟨w.heap.size, k * 4 + 3, none⟩ = some Z[k * 4 + 3] := by
        rw [World.ownsRow.cellAt hown2 (k * 4 + 3) (by omega), List.getElem?_append_right (by rw [List.length_take]; omega), List.length_take, List.getElem?_drop]
        have hpl := HP.out
        rw [Nat.min_eq_left (by omega), show k * 4 + (k * 4 + 3 - k * 4) = k * 4 + 3 by omega]
        exact List.getElem?_eq_getElem (by omega)
      have hf0 := World.ownsRow.frozenAt hown2 (k * 4)
      have hf1 := World.ownsRow.frozenAt hown2 (k * 4 + 1)
      have hf2 := World.ownsRow.frozenAt hown2 (k * 4 + 2)
      have hf3 := World.ownsRow.frozenAt hown2 (k * 4 + 3)
      obtain ⟨hq0, hy0⟩ := World.ownsRow.stored hown2 (k * 4) (.string x.method)
      rw [Pu.set_mid hP0 HP.out] at hq0
      obtain ⟨hq1, hy1⟩ := World.ownsRow.stored hq0 (k * 4 + 1) (.string x.key)
      rw [Pu.set_mid hP1 HP.out] at hq1
      obtain ⟨hq2, hy2⟩ := World.ownsRow.stored hq1 (k * 4 + 2) (.int .i64 x.value)
      rw [Pu.set_mid hP2 HP.out] at hq2
      obtain ⟨hq3, hy3⟩ := World.ownsRow.stored hq2 (k * 4 + 3) (.string x.text)
      rw [Pu.set_mid hP3 HP.out, show k * 4 + 3 + 1 = (k + 1) * 4 by omega] at hq3
      have HR := hide hq3
      clear hP0 hP1 hP2 hP3 hq0 hq1 hq2 hq3 hy0 hy1 hy2 hy3 hown hown2
      unfold callV
      go_wp2
      go_roundw
      case rel => exact ⟨k + 1, by omega, by go_num, HR.out, ((((below_then hb hb2).setCell (Nat.le_refl _) _).setCell (Nat.le_refl _) _).setCell (Nat.le_refl _) _).setCell (Nat.le_refl _) _⟩
      case measure => simp [intOf]; omega
    · obtain rfl : k = l.length := by omega
      go_wp2
      go_ret
      refine ⟨_, rfl, ?_, hb⟩
      unfold OwnL
      rw [List.take_of_length_le (by rw [flat_len (size := 4) (fun _ => rfl)]; omega), dropEnd (by rw [hzl.out]; omega), List.append_nil] at hown
      exact hown
set_option maxHeartbeats 1000000 in
set_option maxRecDepth 100000 in
theorem markCallS_c (v : Value) (l : List Pu.CallD) (k : Int) (base : Nat) (w : World) (h : OwnL w base 37 4 callEn v l) (hk0 : 1 ≤ k) (hk1 : k ≤ 4294967296) (hl : l.length ≤ 4294967296) :
    Calls Tryz.prog 27 #[v, .int .i64 k] w fun e w' => e = .returned (.int .i64 (k + 4 * l.length)) ∧ w.grownBy w' v.ownBlock := by
  by_cases hn : l.length = 0
  · obtain ⟨A, c, rfl⟩ := h.empty hn
    have hz := hide hn
    obtain rfl : l = [] := List.eq_nil_of_length_eq_zero hn
    go_enter Tryz.func27, Tryz.ntmps27
    go_wp2
    refine wp_loop_rounds 1 ?_
    rw [rounds_succ]
    go_wp2
    go_ret
    exact ⟨ret_int (by simp), grown_refl _ _⟩
  · obtain ⟨g, c, rfl, hbg, hgs, hlc, hcm⟩ := h.at_ (by omega)
    go_enter Tryz.func27, Tryz.ntmps27
    go_wp2
    go_loopw [1, 5] (fun kk i wr => ∃ (j : Nat) (xs : List Value), j ≤ l.length ∧ i = .int .i64 j ∧ kk = .int .i64 (k + 4 * j) ∧ xs.length = l.length * 4 ∧ wr.ownsRow base 37 4 (.slice (some ⟨g, 0, none⟩) l.length c) l.length xs ∧ w.grownBy wr (some g)) (fun _ i _ => l.length - (intOf i).toNat)
    case atStart => exact ⟨0, _, by omega, rfl, by simp, flat_len (size := 4) (fun _ => rfl) l, h, grown_refl _ _⟩
    case round =>
      obtain ⟨j, xs, hj, rfl, rfl, hxl, hown, hgr⟩ := hrel
      by_cases hlt : j < l.length
      · have HX0 := hide hxl
        clear hxl
        go_wp2_with fail
        refine (markText_c _ _ (by omega) (by omega)).mono ?_; rintro e w0 ⟨rfl, hb0⟩
        have hown0 := row_below hown hb0
        have hgr0 := grown_trans hgr (grown_of hb0 _)
        obtain ⟨u0, hc0⟩ : ∃ u, w0.cell? ⟨g, j * 4, none⟩ = some u := ⟨_, (World.ownsRow.cellAt hown0 (j * 4) (by omega)).trans (List.getElem?_eq_getElem (by (try simp only [List.length_set]); have := HX0.out; omega))⟩
        have hf0 := World.ownsRow.frozenAt hown0 (j * 4)
        obtain ⟨hs0, ht0⟩ := World.ownsRow.stored hown0 (j * 4) (.string (Pu.markT (k + 4 * j)))
        have hgs0 := grown_trans hgr0 ht0
        go_wp2_with fail
        refine (markText_c _ _ (by omega) (by omega)).mono ?_; rintro e w1 ⟨rfl, hb1⟩
        have hown1 := row_below hs0 hb1
        have hgr1 := grown_trans hgs0 (grown_of hb1 _)
        obtain ⟨u1, hc1⟩ : ∃ u, w1.cell? ⟨g, j * 4 + 1, none⟩ = some u := ⟨_, (World.ownsRow.cellAt hown1 (j * 4 + 1) (by omega)).trans (List.getElem?_eq_getElem (by (try simp only [List.length_set]); have := HX0.out; omega))⟩
        have hf1 := World.ownsRow.frozenAt hown1 (j * 4 + 1)
        obtain ⟨hs1, ht1⟩ := World.ownsRow.stored hown1 (j * 4 + 1) (.string (Pu.markT (k + 4 * j + 1)))
        have hgs1 := grown_trans hgr1 ht1
        obtain ⟨u2, hc2⟩ : ∃ u, (w1.setCell ⟨g, j * 4 + 1, none⟩ (.string (Pu.markT (k + 4 * j + 1)))).cell? ⟨g, j * 4 + 2, none⟩ = some u := ⟨_, (World.ownsRow.cellAt hs1 (j * 4 + 2) (by omega)).trans (List.getElem?_eq_getElem (by (try simp only [List.length_set]); have := HX0.out; omega))⟩
        have hf2 := World.ownsRow.frozenAt hs1 (j * 4 + 2)
        obtain ⟨hs2, ht2⟩ := World.ownsRow.stored hs1 (j * 4 + 2) (.int .i64 (k + 4 * j + 1 + 1))
        have hgs2 := grown_trans hgs1 ht2
        go_wp2_with fail
        refine (markText_c _ _ (by omega) (by omega)).mono ?_; rintro e w3 ⟨rfl, hb3⟩
        have hown3 := row_below hs2 hb3
        have hgr3 := grown_trans hgs2 (grown_of hb3 _)
        obtain ⟨u3, hc3⟩ : ∃ u, w3.cell? ⟨g, j * 4 + 3, none⟩ = some u := ⟨_, (World.ownsRow.cellAt hown3 (j * 4 + 3) (by omega)).trans (List.getElem?_eq_getElem (by (try simp only [List.length_set]); have := HX0.out; omega))⟩
        have hf3 := World.ownsRow.frozenAt hown3 (j * 4 + 3)
        obtain ⟨hs3, ht3⟩ := World.ownsRow.stored hown3 (j * 4 + 3) (.string (Pu.markT (k + 4 * j + 1 + 1 + 1)))
        have hgs3 := grown_trans hgr3 ht3
        go_wp2
        go_roundw
        case rel => exact ⟨j + 1, _, by omega, by go_num, by go_num, by (try simp only [List.length_set]); exact HX0.out, hs3, hgs3⟩
        case measure => simp [intOf]; omega
      · obtain rfl : j = l.length := by omega
        go_wp2
        go_ret
        exact ⟨rfl, hgr⟩
set_option maxHeartbeats 1000000 in
set_option maxRecDepth 100000 in
theorem markReplyS_c (v : Value) (l : List Pu.ReplyD) (k : Int) (base : Nat) (w : World) (h : OwnL w base 33 5 replyEn v l) (hk0 : 1 ≤ k) (hk1 : k ≤ 4294967296) (hl : l.length ≤ 4294967296) :
    Calls Tryz.prog 28 #[v, .int .i64 k] w fun e w' => e = .returned (.int .i64 (k + 5 * l.length)) ∧ OwnL w' base 33 5 replyEn v (Pu.gen (Pu.gR k) l.length) ∧ w.grownBy w' v.ownBlock := by
  by_cases hn : l.length = 0
  · obtain ⟨A, c, rfl⟩ := h.empty hn
    have hz := hide hn
    obtain rfl : l = [] := List.eq_nil_of_length_eq_zero hn
    go_enter Tryz.func28, Tryz.ntmps28
    go_wp2
    refine wp_loop_rounds 1 ?_
    rw [rounds_succ]
    go_wp2
    go_ret
    exact ⟨ret_int (by simp), h, grown_refl _ _⟩
  · obtain ⟨g, c, rfl, hbg, hgs, hlc, hcm⟩ := h.at_ (by omega)
    go_enter Tryz.func28, Tryz.ntmps28
    go_wp2
    go_loopw [1, 5] (fun kk i wr => ∃ j : Nat, j ≤ l.length ∧ i = .int .i64 j ∧ kk = .int .i64 (k + 5 * j) ∧ wr.ownsRow base 33 5 (.slice (some ⟨g, 0, none⟩) l.length c) l.length ((Pu.gen (Pu.gR k) j ++ l.drop j).flatMap replyEn) ∧ w.grownBy wr (some g)) (fun _ i _ => l.length - (intOf i).toNat)
    case atStart => exact ⟨0, by omega, rfl, by simp, by have h' : w.ownsRow base 33 5 _ _ (l.flatMap replyEn) := h; simpa [Pu.gen] using h', grown_refl _ _⟩
    case round =>
      obtain ⟨j, hj, rfl, rfl, hown, hgr⟩ := hrel
      by_cases hlt : j < l.length
      · have hat : (Pu.gen (Pu.gR k) j ++ l.drop j)[j]? = some l[j] := by
          rw [List.getElem?_append_right (by rw [Pu.gen_len]; omega), Pu.gen_len]
          simp [List.getElem?_eq_getElem hlt]
        have hfl : ((Pu.gen (Pu.gR k) j ++ l.drop j).flatMap replyEn).length = l.length * 5 := by rw [flat_len (size := 5) (fun _ => rfl)]; simp [Pu.gen_len]; omega
        have HX0 := hide hfl
        clear hfl hat
        obtain ⟨u0, hc0⟩ : ∃ u, wr.cell? ⟨g, j * 5, none⟩ = some u := ⟨_, (World.ownsRow.cellAt hown (j * 5) (by omega)).trans (List.getElem?_eq_getElem (by (try simp only [List.length_set]); have := HX0.out; omega))⟩
        have hf0 := World.ownsRow.frozenAt hown (j * 5)
        obtain ⟨hs0, ht0⟩ := World.ownsRow.stored hown (j * 5) (.int .i64 (k + 5 * j))
        have hgs0 := grown_trans hgr ht0
        obtain ⟨u1, hc1⟩ : ∃ u, (wr.setCell ⟨g, j * 5, none⟩ (.int .i64 (k + 5 * j))).cell? ⟨g, j * 5 + 1, none⟩ = some u := ⟨_, (World.ownsRow.cellAt hs0 (j * 5 + 1) (by omega)).trans (List.getElem?_eq_getElem (by (try simp only [List.length_set]); have := HX0.out; omega))⟩
        have hf1 := World.ownsRow.frozenAt hs0 (j * 5 + 1)
        obtain ⟨hs1, ht1⟩ := World.ownsRow.stored hs0 (j * 5 + 1) (.int .i64 (k + 5 * j + 1))
        have hgs1 := grown_trans hgs0 ht1
        go_wp2_with fail
        refine (markText_c _ _ (by omega) (by omega)).mono ?_; rintro e w2 ⟨rfl, hb2⟩
        have hown2 := row_below hs1 hb2
        have hgr2 := grown_trans hgs1 (grown_of hb2 _)
        obtain ⟨u2, hc2⟩ : ∃ u, w2.cell? ⟨g, j * 5 + 2, none⟩ = some u := ⟨_, (World.ownsRow.cellAt hown2 (j * 5 + 2) (by omega)).trans (List.getElem?_eq_getElem (by (try simp only [List.length_set]); have := HX0.out; omega))⟩
        have hf2 := World.ownsRow.frozenAt hown2 (j * 5 + 2)
        obtain ⟨hs2, ht2⟩ := World.ownsRow.stored hown2 (j * 5 + 2) (.string (Pu.markT (k + 5 * j + 1 + 1)))
        have hgs2 := grown_trans hgr2 ht2
        obtain ⟨u3, hc3⟩ : ∃ u, (w2.setCell ⟨g, j * 5 + 2, none⟩ (.string (Pu.markT (k + 5 * j + 1 + 1)))).cell? ⟨g, j * 5 + 3, none⟩ = some u := ⟨_, (World.ownsRow.cellAt hs2 (j * 5 + 3) (by omega)).trans (List.getElem?_eq_getElem (by (try simp only [List.length_set]); have := HX0.out; omega))⟩
        have hf3 := World.ownsRow.frozenAt hs2 (j * 5 + 3)
        obtain ⟨hs3, ht3⟩ := World.ownsRow.stored hs2 (j * 5 + 3) (.int .i64 (k + 5 * j + 1 + 1 + 1))
        have hgs3 := grown_trans hgs2 ht3
        obtain ⟨u4, hc4⟩ : ∃ u, ((w2.setCell ⟨g, j * 5 + 2, none⟩ (.string (Pu.markT (k + 5 * j + 1 + 1)))).setCell ⟨g, j * 5 + 3, none⟩ (.int .i64 (k + 5 * j + 1 + 1 + 1))).cell? ⟨g, j * 5 + 4, none⟩ = some u := ⟨_, (World.ownsRow.cellAt hs3 (j * 5 + 4) (by omega)).trans (List.getElem?_eq_getElem (by (try simp only [List.length_set]); have := HX0.out; omega))⟩
        have hf4 := World.ownsRow.frozenAt hs3 (j * 5 + 4)
        obtain ⟨hs4, ht4⟩ := World.ownsRow.stored hs3 (j * 5 + 4) (.int .i64 (k + 5 * j + 1 + 1 + 1 + 1))
        have hgs4 := grown_trans hgs3 ht4
        rw [Pu.gR_set hlt] at hs4
        have HS4 := hide hs4
        clear hs4
        go_wp2
        go_roundw
        case rel => exact ⟨j + 1, by omega, by go_num, by go_num, HS4.out, hgs4⟩
        case measure => simp [intOf]; omega
      · obtain rfl : j = l.length := by omega
        go_wp2
        go_ret
        refine ⟨rfl, ?_, hgr⟩
        unfold OwnL
        rw [Pu.gen_len]
        simpa using hown
set_option maxHeartbeats 1000000 in
set_option maxRecDepth 100000 in
theorem heldReplyS_c (v : Value) (n : Nat) (k : Int) (w : World) (hv : RdL w 5 replyEn v (Pu.gen (Pu.gR k) n)) (hk0 : 1 ≤ k) (hk1 : k ≤ 4294967296) (hl : n ≤ 4294967296) :
    Calls Tryz.prog 29 #[v, .int .i64 k] w fun e w' => e = .returned (.int .i64 (k + 5 * n)) ∧ Below w.heap.size w w' := by
  obtain ⟨A, c, rfl, hlc, hcm, hA⟩ := hv.open_
  have HA := hide hA
  clear hA hv
  rw [Pu.gen_len] at hlc
  rw [Pu.gen_len]
  go_enter Tryz.func29, Tryz.ntmps29
  go_wp2
  go_loopw [1, 5] (fun kk i wr => ∃ j : Nat, j ≤ n ∧ i = .int .i64 j ∧ kk = .int .i64 (k + 5 * j) ∧ Below w.heap.size w wr) (fun _ i _ => n - (intOf i).toNat)
  case atStart => exact ⟨0, by omega, rfl, by simp, Below.refl _ _⟩
  case round =>
    obtain ⟨j, hj, rfl, rfl, hb⟩ := hrel
    by_cases hlt : j < n
    · obtain ⟨g, o, rfl, hg, HC⟩ := HA.out.at_ (by rw [Pu.gen_len]; omega)
      obtain ⟨x, HX, h0, h1, h2, h3, h4⟩ := reply_get HC hb (k := j) (by rw [Pu.gen_len]; omega)
      obtain rfl : x = Pu.gR k j := by have e1 := HX.out; rw [Pu.gen_at hlt] at e1; simpa using e1.symm
      have h0' : wr.cell? ⟨g, o + j * 5, none⟩ = some (.int .i64 (k + 5 * j)) := h0
      have h1' : wr.cell? ⟨g, o + j * 5 + 1, none⟩ = some (.int .i64 (k + 5 * j + 1)) := h1
      have h2' : wr.cell? ⟨g, o + j * 5 + 2, none⟩ = some (.string (Pu.markT (k + 5 * j + 1 + 1))) := h2
      have hgr : g < wr.heap.size := Nat.lt_of_lt_of_le hg hb.size
      have K0 : Below wr.heap.size wr wr := Below.refl _ _
      have KD : ∀ w' : World, Below wr.heap.size wr w' → Below wr.heap.size wr w'.drew := fun _ h => h.drew
      have HB := hide hb
      have H3 := hide h3
      have H4 := hide h4
      clear hb h0 h1 h2 h3 h4
      go_wp2_with fail
      go_region_held3 (fun w' => Below wr.heap.size wr w' ∧ w'.cell? ⟨g, o + j * 5 + 2, none⟩ = some (.string (Pu.markT (k + 5 * j + 1 + 1)))) (go_keep)
        (first | (go_at_call 64; refine (markText_c _ _ (by omega) (by omega)).mono ?_; rintro e WX ⟨rfl, bX⟩;
                     have KW : Below wr.heap.size wr WX := below_then (And.left (by assumption)) bX;
                     have KX : ∀ i : Nat, WX.cell? ⟨g, i, none⟩ = _ := fun i => bX.cell (Nat.lt_of_lt_of_le hgr (Below.size (And.left (by assumption))))))
      have h3' : wr.cell? ⟨g, o + j * 5 + 3, none⟩ = some (.int .i64 (k + 5 * j + 1 + 1 + 1)) := H3.out
      have h4' : wr.cell? ⟨g, o + j * 5 + 4, none⟩ = some (.int .i64 (k + 5 * j + 1 + 1 + 1 + 1)) := H4.out
      go_wp2
      go_roundw
      case rel => exact ⟨j + 1, by omega, by go_num, by go_num, below_then HB.out KW⟩
      case measure => simp [intOf]; omega
    · go_wp2
      go_ret
      exact ⟨ret_int (by omega), hb⟩
end Go.Proofs.YtllmcnmongaahaaGreatDoor
