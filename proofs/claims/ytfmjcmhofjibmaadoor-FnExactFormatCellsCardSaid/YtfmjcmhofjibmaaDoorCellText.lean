/- Contracts: cells as texts. -/
import Derived.Test.YtfmjcmhofjibmaaDoorNumText
import Derived.Test.YtfmjcmhofjibmaaDoorCopy
import Derived.Test.YtfmjcmhofjibmaaDoorMem3
import Derived.Test.YtfmjcmhofjibmaaDoorJoin
import Derived.Deep.RegionHeld3
namespace Go.Proofs.YtfmjcmhofjibmaaDoor
open Go.ChangeShapes Go.WideShapes Go.ChangeAt Go.RowKit
set_option maxRecDepth 100000
theorem Pu.joinB_size' (sep : ByteArray) (l : List ByteArray) : (Pu.joinB sep l).size ≤ l.length * sep.size + Pu.tot l := by
  rw [← Pu.joinB_lib]
  exact Nat.le_trans (Nat.le_of_eq (by simp [ByteArray.size])) (Pu.joinLen sep l)
theorem one_txt' (n : ByteArray) : ∀ u ∈ [Value.string n], u.oneCell' = true := by simp [Value.oneCell']
section
variable {P : Program}
/-- 'append(out, x)' at a step of a region that draws its order: x lies in a new block of its own; out is the call's own. -/
theorem step_push {α : Type} {ops : Array Oper} {o : Oper} {a : Act} {K : Act → World → Prop} {Q : Exit → Act → World → Prop} {E : Prop} {wr : World} (hgd : o.guard = none) (s x : Operand) (t : TypeId)
    (ho : o.op = .call { callee := .builtin .append, args := #[s, x], argTypes := #[t, t] }) (base : Nat) (e : TypeId) (i : TypeInfo) (z : Value) (size bytes : Nat)
    (ht : P.underlying t = some (.slice e)) (hi : P.info? e = some i) (hz : i.zero = some z) (hsize : i.size = size) (hby : i.bytes = bytes) (hzs : z.cells.size = size) (hsz : 0 < size)
    (en : α → List Value) (v : Value) (l : List α) (y : α) (hs : a.eval s = v) (hown : OwnL wr base e size en v l) (hx : a.eval x = .slice (some ⟨wr.heap.size, 0, none⟩) 1 1)
    (hlen : (en y).length = size) (hone : ∀ u ∈ en y, u.oneCell' = true) (hb' : base ≤ wr.heap.size) (hn : l.length < 1099511627776) (hbytes : bytes ≤ 64)
    (h : ∀ v' w', OwnL w' base e size en v' (l ++ [y]) → (wr.alloc (.cells (en y).toArray e)).grownBy w' v.ownBlock → K (a.put o.dst v') w') :
    if Region.wanted o (yielded ops a.tmps) = true then Oper.wp P o a (wr.alloc (.cells (en y).toArray e)) K Q else E := by
  have hw : Region.wanted o (yielded ops a.tmps) = true := by simp [Region.wanted, hgd]
  rw [if_pos hw]
  have hown0 : (wr.alloc (.cells (en y).toArray e)).ownsRow base e size v l.length (l.flatMap en) := World.ownsRow.alloc hown _
  have hbt : (l.length + 1) * bytes ≤ 140737488355328 := by
    calc (l.length + 1) * bytes ≤ 1099511627776 * 64 := Nat.mul_le_mul (by omega) hbytes
      _ ≤ 140737488355328 := by decide
  obtain ⟨v', w', hrun, h2, h3, _, _⟩ := Go.run_append_own_at (P := P) (wr.alloc (.cells (en y).toArray e)) base t o.type e i z size bytes ht hi hz hsize hby hzs hsz v l.length (l.flatMap en) hown0 ⟨wr.heap.size, 0, none⟩ 1 1 (en y) (by omega) (by
    intro j u hj
    have e1 : (⟨wr.heap.size, 0, none⟩ : Addr).add j = ⟨wr.heap.size, j, none⟩ := by unfold Addr.add; split <;> simp_all
    rw [e1, cell_of_row _ wr.heap.size j (en y).toArray e (0, 0) (heap_alloc_new wr _)]
    simpa using hj) hone (by unfold maxLen; omega) hbt (by simp; omega)
  unfold Oper.wp execOp
  simp only [ho, resolve, invoke, builtin, Sem.run_bind, Sem.run_pure, Result.andThen_ok, List.map_toArray, List.map_cons, List.map_nil, hs, hx, hrun]
  exact h v' w' (OwnL.snoc h2) h3
end
def Pu.cellT (c : Pu.CellD) : ByteArray := c.key ++ ⟨#[61]⟩ ++ Pu.numB c.val
def Pu.cellsT (l : List Pu.CellD) : ByteArray := if Pu.cellsB l then (if l.length = 0 then ⟨#[45]⟩ else Pu.joinB ⟨#[44]⟩ (l.map Pu.cellT)) else ⟨#[]⟩
theorem Pu.cellsFrom_all : ∀ {l : List Pu.CellD} {p : Option ByteArray}, Pu.cellsFrom p l = true → ∀ c ∈ l, Pu.nameL c.key.toList = true ∧ Pu.isNum c.val = true
  | [], _, _, _, h => by cases h
  | x :: r, p, h, c, hc => by
    simp only [Pu.cellsFrom, Bool.and_eq_true] at h
    rcases List.mem_cons.1 hc with rfl | hc
    · exact ⟨h.1.1.1, h.1.1.2⟩
    · exact Pu.cellsFrom_all h.2 c hc
theorem Pu.cellsB_all {l : List Pu.CellD} (h : Pu.cellsB l = true) : l.length ≤ 4 ∧ ∀ c ∈ l, c.key.size ≤ 8 ∧ 0 ≤ c.val ∧ c.val ≤ 999 := by
  simp only [Pu.cellsB, Bool.and_eq_true, decide_eq_true_eq] at h
  refine ⟨h.1, fun c hc => ?_⟩
  obtain ⟨h1, h2⟩ := Pu.cellsFrom_all h.2 c hc
  simp only [Pu.nameL, Bool.and_eq_true, decide_eq_true_eq, lenB] at h1
  simp only [Pu.isNum, Bool.and_eq_true, decide_eq_true_eq] at h2
  exact ⟨h1.1.2, h2.1, h2.2⟩
theorem Pu.numB_small {n : Int} (h0 : 0 ≤ n) (h1 : n ≤ 999) : (Pu.numB n).size ≤ 3 := by
  have := Pu.itoa_len_small h0 h1
  have e : (Pu.numB n).size = (Lib.itoa n).length := rfl
  omega
theorem Pu.cellT_size {c : Pu.CellD} (h : c.key.size ≤ 8 ∧ 0 ≤ c.val ∧ c.val ≤ 999) : (Pu.cellT c).size ≤ 12 := by
  have := Pu.numB_small h.2.1 h.2.2
  have e : (⟨#[61]⟩ : ByteArray).size = 1 := rfl
  rw [Pu.cellT, ByteArray.size_append, ByteArray.size_append, e]
  omega
theorem Pu.cellsT_tot : ∀ {l : List Pu.CellD}, (∀ c ∈ l, c.key.size ≤ 8 ∧ 0 ≤ c.val ∧ c.val ≤ 999) → Pu.tot (l.map Pu.cellT) ≤ 12 * l.length
  | [], _ => by simp [Pu.tot]
  | x :: r, h => by
    have h1 := Pu.cellT_size (h x (by simp))
    have h2 := Pu.cellsT_tot (l := r) fun c hc => h c (by simp [hc])
    simp only [List.map_cons, Pu.tot, List.length_cons]
    omega
theorem Pu.cellsT_size (l : List Pu.CellD) : (Pu.cellsT l).size ≤ 64 := by
  unfold Pu.cellsT
  split
  · rename_i h
    obtain ⟨h1, h2⟩ := Pu.cellsB_all h
    split
    · decide
    · have h3 := Pu.joinB_size' ⟨#[44]⟩ (l.map Pu.cellT)
      have h4 := Pu.cellsT_tot h2
      have e : (⟨#[44]⟩ : ByteArray).size = 1 := rfl
      rw [e, List.length_map] at h3
      omega
  · decide
set_option maxHeartbeats 2000000 in
theorem iFormatCells_c (v : Value) (l : List Pu.CellD) (w : World) (hT : Pow10 w) (hv : RdCells w v l) :
    Calls Tryd.prog 22 #[v] w fun e w' => e = .returned (.string (Pu.cellsT l)) ∧ Below w.heap.size w w' := by
  obtain ⟨i0, hi, hz0, hz1, hz2⟩ := info_parts info_str
  have hlt0 := hT.lt
  have HT := hide hT
  have HV := hide hv
  obtain ⟨A, c, rfl, hlc, hcm, hA⟩ := hv.1.open_
  have HA := hide hA
  clear hA hv hT
  rcases hB : Pu.cellsB l with _ | _
  · have HF : Hid (Pu.cellsT l = ⟨#[]⟩) := by rw [Hid, Pu.cellsT, hB]; rfl
    go_enter Tryd.func22, Tryd.ntmps22
    go_wp2_with fail
    refine (iIsCells_c _ _ _ HV.out).mono ?_; rintro e w1 ⟨rfl, b1⟩
    rw [hB]
    go_wp2
    go_ret
    exact ⟨ret_str HF.out.symm, b1⟩
  by_cases h0 : l.length = 0
  · have HF : Hid (Pu.cellsT l = ⟨#[45]⟩) := by rw [Hid, Pu.cellsT, hB, if_pos rfl, if_pos h0]
    obtain rfl : l = [] := List.eq_nil_of_length_eq_zero h0
    have HV0 := hide (show RdCells w (.slice A 0 c) [] from HV.out)
    clear h0 HV
    go_enter Tryd.func22, Tryd.ntmps22
    go_wp2_with fail
    refine (iIsCells_c _ _ _ HV0.out).mono ?_; rintro e w1 ⟨rfl, b1⟩
    rw [hB]
    go_wp2
    go_ret
    exact ⟨ret_str HF.out.symm, b1⟩
  have HF : Hid (Pu.cellsT l = Pu.joinB ⟨#[44]⟩ (l.map Pu.cellT)) := by rw [Hid, Pu.cellsT, hB, if_pos rfl, if_neg h0]
  obtain ⟨hl4, hall⟩ := Pu.cellsB_all hB
  have HALL := hide hall
  have hz : ((l.length : Int) == 0) = false := beq_eq_false_iff_ne.2 (by omega)
  clear hall h0
  go_enter Tryd.func22, Tryd.ntmps22
  go_wp2_with fail
  refine (iIsCells_c _ _ _ HV.out).mono ?_; rintro e w1 ⟨rfl, b1⟩
  rw [hB]
  have HB1 := hide b1
  clear b1
  go_wp2
  go_loopw [3, 14] (fun v i wr => ∃ k : Nat, k ≤ l.length ∧ i = .int .i64 k ∧ OwnL wr w1.heap.size 9 1 strEn v ((l.take k).map Pu.cellT) ∧ Below w1.heap.size w1 wr) (fun _ i _ => l.length - (intOf i).toNat)
  case atStart => exact ⟨0, by omega, rfl, OwnL.nil _ _ _ _ _, Below.refl _ _⟩
  case round =>
    obtain ⟨k, hk, rfl, hown, hb⟩ := hrel
    by_cases hlt : k < l.length
    · obtain ⟨g, o, rfl, hg, HC⟩ := HA.out.at_ (by omega)
      have hbw : Below w.heap.size w wr := HB1.out.trans (hb.mono HB1.out.size)
      obtain ⟨x, HX, c0, c1⟩ := cell_get HC hbw hlt
      obtain ⟨hx8, hx0, hx9⟩ := HALL.out x (List.mem_of_getElem? HX.out)
      have hn3 := Pu.numB_small hx0 hx9
      have hz1' : ¬ 9223372036854775807 < x.key.size + 1 := by omega
      have hz2' : ¬ 9223372036854775807 < x.key.size + 1 + (Pu.numB x.val).size := by omega
      obtain ⟨WA, hWA⟩ : ∃ WA, Hid (wr.alloc (.cells #[.string x.key, .int .i64 x.val] 58 : Obj) = WA) := ⟨_, rfl⟩
      have bA : Below wr.heap.size wr WA := by rw [← hWA.out]; exact below_alloc (Below.refl _ _) _
      have hsA : WA.heap.size = wr.heap.size + 1 := by rw [← hWA.out]; simp
      have Y0 := hide (show WA.heap[wr.heap.size]? = some (.cells #[.string x.key, .int .i64 x.val] 58 : Obj) by rw [← hWA.out]; exact heap_new rfl)
      have y0 : WA.cell? ⟨wr.heap.size, 0, none⟩ = some (.string x.key) := cell_of_row WA _ 0 _ _ (0, 0) Y0.out
      have y1 : WA.cell? ⟨wr.heap.size, 1, none⟩ = some (.int .i64 x.val) := cell_of_row WA _ 1 _ _ (0, 0) Y0.out
      have hLA : wr.heap.size < WA.heap.size := by omega
      have hTA := hide ((HT.out.below hbw hlt0).below bA (Nat.lt_of_lt_of_le hlt0 hbw.size))
      have hltA : 3 < WA.heap.size := by have := hbw.size; omega
      have HOWN := hide (OwnL.below hown bA (Nat.le_refl _))
      have HNE := hide (fun g (hg : _ = some g) => (OwnL.lt hown (g := g) hg).2)
      have hlen : ((l.take k).map Pu.cellT).length < 1099511627776 := by simp; omega
      have hbs : w1.heap.size ≤ wr.heap.size := hb.size
      have HBW := hide hb
      clear hown hb hbw
      go_wp2_with fail
      rw [hWA.out]
      have K0 : Below WA.heap.size WA WA := Below.refl _ _
      go_region_held3 (fun w' => w'.cell? ⟨wr.heap.size, 0, none⟩ = some (.string x.key) ∧ w'.cell? ⟨wr.heap.size, 1, none⟩ = some (.int .i64 x.val)) (go_keep)
        (first
          | (go_at_call 10;
              refine (iFormatNumber_c x.val _ (hTA.out.below (by first | exact K0 | exact K0.drew) hltA) (by omega) (by omega)).mono ?_;
              rintro e WX ⟨rfl, bX⟩;
              have KWX : Below WA.heap.size WA WX := below_then (by first | exact K0 | exact K0.drew) bX;
              have KX : ∀ k : Nat, WX.cell? ⟨wr.heap.size, k, none⟩ = _ := fun k => KWX.cell hLA;
              have hLX : wr.heap.size < WX.heap.size := Nat.lt_of_lt_of_le hLA KWX.size)
          | (refine step_push rfl _ _ 53 (by exact rfl) w1.heap.size 9 i0 (.string ByteArray.empty) 1 16 Tryd.underlying53 hi hz0 hz1 hz2 rfl (by decide) strEn _ _ (Pu.cellT x) (by exact rfl) (OwnL.below HOWN.out KWX (Nat.le_refl _)) (by exact rfl) rfl (one_txt' _) (Nat.le_trans hbs (Nat.le_of_lt hLX)) hlen (by decide) ?_; intro vY WY oY gY;
              have KY : ∀ k : Nat, WY.cell? ⟨wr.heap.size, k, none⟩ = _ := fun k => World.cell?_of_block (gY.block wr.heap.size (by simp; omega) (fun e => absurd (HNE.out _ e.symm) (Nat.lt_irrefl _)))))
      have hb3 : Below w1.heap.size w1 WY := (below_alloc (HBW.out.trans ((bA.trans (KWX.mono (Nat.le_of_lt hLA))).mono hbs)) _).grown gY (by simp; omega) (fun j hj => (OwnL.lt HOWN.out hj).1)
      clear KY gY bX KX
      go_wp2
      go_roundw
      case rel => exact ⟨k + 1, by omega, by go_num, by rw [List.take_add_one, HX.out, List.map_append]; exact oY, hb3⟩
      case measure => simp [intOf]; omega
    · obtain rfl : k = l.length := by omega
      rw [List.take_length] at hown
      have htot := Pu.cellsT_tot HALL.out
      go_wp2_with fail
      refine (iJoinWith_c _ _ _ _ (hown.rd (fun _ => rfl)) (by rw [List.length_map]; omega) (by decide) (by omega)).mono ?_; rintro e w2 ⟨rfl, b2⟩
      go_wp2
      go_ret
      exact ⟨ret_str HF.out.symm, below_then (HB1.out.trans (hb.mono HB1.out.size)) b2⟩
set_option maxHeartbeats 2000000 in
theorem sFormatCells_c (v : Value) (l : List Pu.CellD) (w : World) (hv : RdCells w v l) :
    Calls Tryd.prog 20 #[v] w fun e w' => e = .returned (.string (Pu.cellsT l)) ∧ Below w.heap.size w w' := by
  obtain ⟨i0, hi, hz0, hz1, hz2⟩ := info_parts info_str
  have HV := hide hv
  obtain ⟨A, c, rfl, hlc, hcm, hA⟩ := hv.1.open_
  have HA := hide hA
  clear hA hv
  have hbm : Below w.heap.size w (w.alloc (.cells #[] 9 : Obj)) := below_alloc (Below.refl _ _) _
  have HVm := hide (RdCells.below HV.out hbm)
  rcases hB : Pu.cellsB l with _ | _
  · have HF : Hid (Pu.cellsT l = ⟨#[]⟩) := by rw [Hid, Pu.cellsT, hB]; rfl
    go_enter Tryd.func20, Tryd.ntmps20
    go_wp2_with fail
    refine (sIsCells_c _ _ _ HVm.out).mono ?_; rintro e w1 ⟨rfl, b1⟩
    rw [hB]
    go_wp2
    go_ret
    exact ⟨ret_str HF.out.symm, below_then hbm b1⟩
  have HF0 : Hid (l.length = 0 → Pu.cellsT l = ⟨#[45]⟩) := fun h => by rw [Pu.cellsT, hB, if_pos rfl, if_pos h]
  have HF : Hid (¬ l.length = 0 → Pu.cellsT l = Pu.joinB ⟨#[44]⟩ (l.map Pu.cellT)) := fun h => by rw [Pu.cellsT, hB, if_pos rfl, if_neg h]
  obtain ⟨hl4, hall⟩ := Pu.cellsB_all hB
  have HALL := hide hall
  clear hall
  go_enter Tryd.func20, Tryd.ntmps20
  go_wp2_with fail
  refine (sIsCells_c _ _ _ HVm.out).mono ?_; rintro e w1 ⟨rfl, b1⟩
  rw [hB]
  have hown0 : OwnL (w.alloc (.cells #[] 9 : Obj)) w.heap.size 9 1 strEn (.slice (some ⟨w.heap.size, 0, none⟩) 0 0) ([] : List ByteArray) := World.ownsRow_made w #[] 0 (Nat.le_refl _) (Nat.zero_le _) rfl
  have HOWN0 := hide (OwnL.below hown0 b1 (Nat.le_refl _))
  have HB1 := hide (below_then hbm b1)
  have hsz1 : w.heap.size < w1.heap.size := by have := b1.size; simp at this; omega
  clear b1 hown0 hbm
  go_wp2
  go_loopw [3, 12] (fun v i wr => ∃ k : Nat, k ≤ l.length ∧ i = .int .i64 k ∧ OwnL wr w.heap.size 9 1 strEn v ((l.take k).map Pu.cellT) ∧ Below w.heap.size w wr) (fun _ i _ => l.length - (intOf i).toNat)
  case atStart => exact ⟨0, by omega, rfl, HOWN0.out, HB1.out⟩
  case round =>
    obtain ⟨k, hk, rfl, hown, hb⟩ := hrel
    by_cases hlt : k < l.length
    · obtain ⟨g, o, rfl, hg, HC⟩ := HA.out.at_ (by omega)
      have hbw : Below w.heap.size w wr := hb
      obtain ⟨x, HX, c0, c1⟩ := cell_get HC hbw hlt
      obtain ⟨hx8, hx0, hx9⟩ := HALL.out x (List.mem_of_getElem? HX.out)
      have hn3 := Pu.numB_small hx0 hx9
      have hz1' : ¬ 9223372036854775807 < x.key.size + 1 := by omega
      have hz2' : ¬ 9223372036854775807 < x.key.size + 1 + (Pu.numB x.val).size := by omega
      obtain ⟨WA, hWA⟩ : ∃ WA, Hid (wr.alloc (.cells #[.string x.key, .int .i64 x.val] 58 : Obj) = WA) := ⟨_, rfl⟩
      have bA : Below wr.heap.size wr WA := by rw [← hWA.out]; exact below_alloc (Below.refl _ _) _
      have hsA : WA.heap.size = wr.heap.size + 1 := by rw [← hWA.out]; simp
      have Y0 := hide (show WA.heap[wr.heap.size]? = some (.cells #[.string x.key, .int .i64 x.val] 58 : Obj) by rw [← hWA.out]; exact heap_new rfl)
      have y0 : WA.cell? ⟨wr.heap.size, 0, none⟩ = some (.string x.key) := cell_of_row WA _ 0 _ _ (0, 0) Y0.out
      have y1 : WA.cell? ⟨wr.heap.size, 1, none⟩ = some (.int .i64 x.val) := cell_of_row WA _ 1 _ _ (0, 0) Y0.out
      have hLA : wr.heap.size < WA.heap.size := by omega
      have HOWN := hide (OwnL.below hown bA (Nat.le_refl _))
      have HNE := hide (fun g (hg : _ = some g) => (OwnL.lt hown (g := g) hg).2)
      have hlen : ((l.take k).map Pu.cellT).length < 1099511627776 := by simp; omega
      have hbs : w.heap.size ≤ wr.heap.size := hb.size
      have HBW := hide hb
      clear hown hb
      go_wp2_with fail
      rw [hWA.out]
      have K0 : Below WA.heap.size WA WA := Below.refl _ _
      go_region_held3 (fun w' => w'.cell? ⟨wr.heap.size, 0, none⟩ = some (.string x.key) ∧ w'.cell? ⟨wr.heap.size, 1, none⟩ = some (.int .i64 x.val)) (go_keep)
        (first
          | (go_at_call 9;
              refine (sFormatNumber_c x.val _ (by omega) (by omega)).mono ?_;
              rintro e WX ⟨rfl, bX⟩;
              have KWX : Below WA.heap.size WA WX := below_then (by first | exact K0 | exact K0.drew) bX;
              have KX : ∀ k : Nat, WX.cell? ⟨wr.heap.size, k, none⟩ = _ := fun k => KWX.cell hLA;
              have hLX : wr.heap.size < WX.heap.size := Nat.lt_of_lt_of_le hLA KWX.size)
          | (refine step_push rfl _ _ 53 (by exact rfl) w.heap.size 9 i0 (.string ByteArray.empty) 1 16 Tryd.underlying53 hi hz0 hz1 hz2 rfl (by decide) strEn _ _ (Pu.cellT x) (by exact rfl) (OwnL.below HOWN.out KWX (Nat.le_refl _)) (by exact rfl) rfl (one_txt' _) (Nat.le_trans hbs (Nat.le_of_lt hLX)) hlen (by decide) ?_; intro vY WY oY gY;
              have KY : ∀ k : Nat, WY.cell? ⟨wr.heap.size, k, none⟩ = _ := fun k => World.cell?_of_block (gY.block wr.heap.size (by simp; omega) (fun e => absurd (HNE.out _ e.symm) (Nat.lt_irrefl _)))))
      have hb3 : Below w.heap.size w WY := (below_alloc (HBW.out.trans ((bA.trans (KWX.mono (Nat.le_of_lt hLA))).mono hbs)) _).grown gY (by simp; omega) (fun j hj => (OwnL.lt HOWN.out hj).1)
      clear KY gY bX KX
      go_wp2
      go_roundw
      case rel => exact ⟨k + 1, by omega, by go_num, by rw [List.take_add_one, HX.out, List.map_append]; exact oY, hb3⟩
      case measure => simp [intOf]; omega
    · obtain rfl : k = l.length := by omega
      rw [List.take_length] at hown
      have htot := Pu.cellsT_tot HALL.out
      have hr : RdStr wr _ _ := hown.rd (fun _ => rfl)
      obtain ⟨A1, c1, rfl, _, _, _⟩ := hr.open_
      rw [List.length_map] at hr
      have HR := hide hr
      clear hr
      simp only [List.length_map]
      by_cases h0 : l.length = 0
      · have HX := hide (HF0.out h0)
        go_wp2
        go_ret
        exact ⟨ret_str HX.out.symm, hb⟩
      · have HX := hide (HF.out h0)
        go_wp2_with fail
        refine (sJoinWith_c _ _ _ _ HR.out (by rw [List.length_map]; omega) (by decide) (by omega)).mono ?_; rintro e w2 ⟨rfl, b2⟩
        go_wp2
        go_ret
        exact ⟨ret_str HX.out.symm, below_then hb b2⟩
end Go.Proofs.YtfmjcmhofjibmaaDoor
