/- Contracts: cells read from a text. -/
import Derived.Test.YtllmcnmongaahaaGreatDoorM0
import Derived.Test.YtllmcnmongaahaaGreatDoorM1
import Derived.Test.YtllmcnmongaahaaGreatDoorCopy
namespace Go.Proofs.YtllmcnmongaahaaGreatDoor
open Go.ChangeShapes Go.WideShapes Go.ChangeAt Go.RowKit
set_option maxRecDepth 100000
theorem one_cellP (x : Pu.CellD) : ∀ u ∈ cellEn x, u.oneCell' = true := by simp [cellEn, Value.oneCell']
theorem mkC_wf (p : ByteArray) (h : p.size ≤ 16777216) : CellD.wf (Pu.mkC p) := by
  have h1 := Pu.cutK_size p
  have h2 := Pu.pn_bd (Pu.cutV p).toList
  exact ⟨by unfold maxLen Pu.mkC; simp only; omega, WalkArith.wf_i64 (by unfold Pu.mkC; simp only; omega)⟩
theorem mkC_wfs {s sep : ByteArray} (h : s.size ≤ 16777216) : ∀ c ∈ (Pu.splitA sep s).map Pu.mkC, CellD.wf c := fun c hc => by
  obtain ⟨p, hp, rfl⟩ := List.mem_map.1 hc
  exact mkC_wf p (Nat.le_trans (Pu.splitA_size hp) h)
theorem rd_at {w : World} {A : Option Addr} {c : Nat} {l : List ByteArray} (h : RdStr w (.slice A l.length c) l) : RdAt w 1 strEn A l := by
  obtain ⟨A', c', e, _, _, h'⟩ := h
  cases e
  exact h'
theorem rd_zero {w : World} {g o : Nat} {a b : ByteArray} (h : Hid (RdFrom w 1 strEn g o [a, b])) : w.cell? ⟨g, o, none⟩ = some (.string a) := by
  have := h.out.2 0 a rfl 0 _ rfl
  simpa using this
theorem rd_one {w : World} {g o : Nat} {a b : ByteArray} (h : Hid (RdFrom w 1 strEn g o [a, b])) : w.cell? ⟨g, o + 1, none⟩ = some (.string b) := by
  have := h.out.2 1 b rfl 0 _ rfl
  simpa using this
/-- a slice read behind a change of another block -/
theorem rd_grown {w w' : World} {row : Option Nat} {g o n c : Nat} {l : List ByteArray} (h : RdStr w (.slice (some ⟨g, o, none⟩) n c) l) (hg : w.grownBy w' row) (hlt : g < w.heap.size) (hne : row ≠ some g) : RdStr w' (.slice (some ⟨g, o, none⟩) n c) l := by
  obtain ⟨A, c', e, h1, h2, h3⟩ := h
  cases e
  refine ⟨_, _, rfl, h1, h2, fun hl => ?_⟩
  obtain ⟨g', o', e', hgs, hc⟩ := h3 hl
  cases e'
  exact ⟨g, o, rfl, Nat.lt_of_lt_of_le hlt hg.size, fun i x hx j u hu => (World.cell?_of_block (a := ⟨g, o + i * 1 + j, none⟩) (hg.block g hlt (fun e => hne e.symm))).trans (hc i x hx j u hu)⟩
theorem splitEq_c (x : ByteArray) (w : World) (hx : x.size ≤ 16777216) :
    Calls Tryz.prog 116 #[.string x, .string ⟨#[61]⟩] w fun e w' => ∃ v, e = .returned v ∧ OwnL w' w.heap.size 9 1 strEn v (Pu.splitA Pu.eqB x) ∧ Below w.heap.size w w' := sSplitAt_c x ⟨#[61]⟩ w hx (by decide)
theorem cutEq_c (p : ByteArray) (w : World) (hM : MaxC w) (hp : p.size ≤ 16777216) :
    Calls Tryz.prog 68 #[.string p, .string ⟨#[61]⟩] w fun e w' => e = .returned (.tuple #[.string (Pu.cutK p), .string (Pu.cutV p), .bool (Pu.cutO p)]) ∧ Below w.heap.size w w' := by
  obtain ⟨m, hm⟩ := hM
  refine (Tryz.strings_Cut p ⟨#[61]⟩ m w (by omega) hm).mono ?_
  rintro e w' ⟨rfl, n, rfl⟩
  exact ⟨rfl, below_drewN (Below.refl _ _) n⟩
set_option maxHeartbeats 2000000 in
theorem iParseCells_c (s : ByteArray) (w : World) (hM : MaxC w) (hT : Pow10 w) (hE : ErrSyn w) (hs : s.size ≤ 1048576) :
    Calls Tryz.prog 32 #[.string s] w fun e w' => ∃ v, e = .returned (.tuple #[v, .bool (Pu.pcOk s)]) ∧ OwnL w' w.heap.size 63 2 cellEn v (Pu.pcL s) ∧ Below w.heap.size w w' := by
  obtain ⟨i0, hi, hz0, hz1, hz2⟩ := info_parts info_cell
  have hlM := hM.lt
  have hlT := hT.lt
  have hlE := hE.lt
  have HM := hide hM
  have HT := hide hT
  have HE := hide hE
  clear hM hT hE
  rcases hd : (s.toList == [45]) with _ | _
  · have HWF := hide (mkC_wfs (s := s) (sep := Pu.commaB) (by omega))
    have hPs : Hid (∀ x ∈ Pu.splitA Pu.commaB s, x.size ≤ 1048576) := fun x hx => Nat.le_trans (Pu.splitA_size hx) hs
    have hPl := Pu.splitA_le Pu.commaB s
    have HD := hide hd
    go_enter Tryz.func32, Tryz.ntmps32
    go_wp2_with fail
    refine (iSplitAt_cc _ _ _ HM.out (by omega) (by decide)).mono ?_; rintro e w1 ⟨v1, rfl, o1, b1⟩
    change OwnL w1 w.heap.size 9 1 strEn v1 (Pu.splitA Pu.commaB s) at o1
    have r1 : RdStr w1 v1 (Pu.splitA Pu.commaB s) := o1.rd (fun _ => rfl)
    generalize hP : Pu.splitA Pu.commaB s = P at HWF hPs hPl o1 r1
    have HP := hide hP
    obtain ⟨A1, k1, rfl, hlc1, hcm1, hA1⟩ := r1.open_
    have HA1 := hide hA1
    have HB1 := hide b1
    clear o1 r1 hA1 b1 hP hd
    go_wp2_with fail
    go_loopw [4, 17] (fun v i wr => ∃ k : Nat, k ≤ P.length ∧ k ≤ 4 ∧ i = .int .i64 k ∧ Hid ((P.take k).all Pu.okC = true) ∧ OwnL wr w1.heap.size 63 2 cellEn v ((P.take k).map Pu.mkC) ∧ Below w1.heap.size w1 wr) (fun _ i _ => P.length - (intOf i).toNat)
    case atStart => exact ⟨0, by omega, by omega, rfl, rfl, OwnL.nil _ _ _ _ _, Below.refl _ _⟩
    case round =>
      obtain ⟨k, hk, hk4, rfl, HAL, hown, hb⟩ := hrel
      have hbw : Below w.heap.size w wr := HB1.out.trans (hb.mono HB1.out.size)
      by_cases hlt : k < P.length
      · obtain ⟨g, o, rfl, hg, HC⟩ := HA1.out.at_ (by omega)
        obtain ⟨x, HX, h0⟩ := str_get HC hb hlt
        have hxs := hPs.out x (List.mem_of_getElem? HX.out)
        have HBAD : Hid (Pu.okC x = false → Pu.pcOk s = false ∧ Pu.pcL s = []) := fun h => Pu.pc_bad HD.out (by rw [HP.out]; exact HX.out) h
        have hlenk : ((P.take k).map Pu.mkC).length = k := by rw [List.length_map, List.length_take]; omega
        rcases hO : Pu.cutO x with _ | _
        · have HF := hide (HBAD.out (by rw [Pu.okC, hO]; rfl))
          go_wp2_with (first
            | (go_at_call 68; refine (cutEq_c x _ (HM.out.below hbw hlM) (by omega)).mono ?_; rintro e w2 ⟨rfl, b2⟩; rw [hO]; have c2 := below_then hbw b2)
            | (go_at_call 69; refine (iParseNumber_c _ _ (HT.out.below c2 hlT) (HE.out.below c2 hlE)).mono ?_; rintro e w3 ⟨rfl, b3⟩; have c3 := below_then c2 b3))
          go_ret2
          exact ⟨_, by rw [HF.out.1]; rfl, by rw [HF.out.2]; exact OwnL.nil _ _ _ _ _, c3⟩
        obtain ⟨N, HN⟩ : ∃ N, Hid (Pu.pnV (Pu.cutV x).toList = N) := ⟨_, rfl⟩
        rcases hB : Pu.pnB (Pu.cutV x).toList with _ | _
        · have HF := hide (HBAD.out (by rw [Pu.okC, hO, hB]; rfl))
          go_wp2_with (first
            | (go_at_call 68; refine (cutEq_c x _ (HM.out.below hbw hlM) (by omega)).mono ?_; rintro e w2 ⟨rfl, b2⟩; rw [hO]; have c2 := below_then hbw b2)
            | (go_at_call 69; refine (iParseNumber_c _ _ (HT.out.below c2 hlT) (HE.out.below c2 hlE)).mono ?_; rintro e w3 ⟨rfl, b3⟩; rw [hB, HN.out]; have c3 := below_then c2 b3))
          go_ret2
          exact ⟨_, by rw [HF.out.1]; rfl, by rw [HF.out.2]; exact OwnL.nil _ _ _ _ _, c3⟩
        have hrow : RdL wr 2 cellEn _ _ := hown.rd (fun _ => rfl)
        obtain ⟨A5, k5, hv5, _, _, _⟩ := hrow.open_
        rw [hlenk] at hv5
        subst hv5
        clear hrow
        by_cases h4 : k < 4
        · have hall1 := hide (Pu.all_take HAL.out HX.out (by rw [Pu.okC, hO, hB]; rfl))
          go_wp2_with (first
            | (go_at_call 68; refine (cutEq_c x _ (HM.out.below hbw hlM) (by omega)).mono ?_; rintro e w2 ⟨rfl, b2⟩; rw [hO]; have c2 := below_then hbw b2)
            | (go_at_call 69; refine (iParseNumber_c _ _ (HT.out.below c2 hlT) (HE.out.below c2 hlE)).mono ?_; rintro e w3 ⟨rfl, b3⟩; rw [hB, HN.out]; have c3 := below_then c2 b3; have d3 := below_then (below_then hb b2) b3; have hown3 := (hown.below b2 (Nat.le_refl _)).below b3 (Nat.le_refl _))
            | (at_builtin; go_must (refine push_law rfl _ _ 29 (by exact rfl) w1.heap.size 63 i0 (.agg #[.string ByteArray.empty, .int .i64 0]) 2 24 Tryz.underlying29 hi hz0 hz1 hz2 rfl (by decide) cellEn _ _ (⟨Pu.cutK x, N⟩ : Pu.CellD) (by exact rfl) hown3 (by exact rfl) rfl (one_cellP _) d3 (Nat.le_refl _) d3.size (by omega) (by decide) ?_); intro v4 w4 hown4 hg4 hb4))
          go_roundw
          case rel => exact ⟨k + 1, by omega, by omega, by go_num, hall1, by rw [List.take_add_one, HX.out, List.map_append]; have e : (⟨Pu.cutK x, N⟩ : Pu.CellD) = Pu.mkC x := (by rw [Pu.mkC, HN.out]); rw [e] at hown4; exact hown4, hb4⟩
          case measure => simp [intOf]; omega
        · obtain rfl : k = 4 := by omega
          have HF := hide (Pu.pc_long (s := s) HD.out (by rw [HP.out]; exact hlt))
          go_wp2_with (first
            | (go_at_call 68; refine (cutEq_c x _ (HM.out.below hbw hlM) (by omega)).mono ?_; rintro e w2 ⟨rfl, b2⟩; rw [hO]; have c2 := below_then hbw b2)
            | (go_at_call 69; refine (iParseNumber_c _ _ (HT.out.below c2 hlT) (HE.out.below c2 hlE)).mono ?_; rintro e w3 ⟨rfl, b3⟩; rw [hB, HN.out]; have c3 := below_then c2 b3))
          go_ret2
          exact ⟨_, by rw [HF.out.1]; rfl, by rw [HF.out.2]; exact OwnL.nil _ _ _ _ _, c3⟩
      · have hkk : P.take k = P := List.take_of_length_le (by omega)
        rw [hkk] at hown HAL
        have HF := hide (Pu.pc_cells (s := s) HD.out (by rw [HP.out]; exact HAL.out))
        rw [HP.out] at HF
        rcases hC : Pu.cellsB (P.map Pu.mkC) with _ | _
        · go_wp2_with (go_at_call 34; refine (iIsCells_c _ _ _ ⟨hown.rd (fun _ => rfl), HWF.out⟩).mono ?_; rintro e w5 ⟨rfl, b5⟩; rw [hC])
          go_ret2
          exact ⟨_, by rw [HF.out.1, hC]; rfl, by rw [HF.out.2, hC]; exact OwnL.nil _ _ _ _ _, below_then hbw b5⟩
        · go_wp2_with (go_at_call 34; refine (iIsCells_c _ _ _ ⟨hown.rd (fun _ => rfl), HWF.out⟩).mono ?_; rintro e w5 ⟨rfl, b5⟩; rw [hC])
          go_ret2
          exact ⟨_, by rw [HF.out.1, hC]; rfl, by rw [HF.out.2, hC]; exact (hown.below b5 (Nat.le_refl _)).mono HB1.out.size, below_then hbw b5⟩
  · have HF := hide (Pu.pc_dash hd)
    go_enter Tryz.func32, Tryz.ntmps32
    go_wp2
    go_ret2
    exact ⟨_, by rw [HF.out.1]; rfl, by rw [HF.out.2]; exact OwnL.nil _ _ _ _ _, Below.refl _ _⟩
set_option maxHeartbeats 2000000 in
theorem sParseCells_c (s : ByteArray) (w : World) (hs : s.size ≤ 1048576) :
    Calls Tryz.prog 89 #[.string s] w fun e w' => ∃ v, e = .returned (.tuple #[v, .bool (Pu.pcOk s)]) ∧ OwnL w' w.heap.size 63 2 cellEn v (Pu.pcL s) ∧ Below w.heap.size w w' := by
  obtain ⟨i0, hi, hz0, hz1, hz2⟩ := info_parts info_cell
  have hnew : ∀ W : World, OwnL (W.alloc (.cells #[] 63 : Obj)) W.heap.size 63 2 cellEn (.slice (some ⟨W.heap.size, 0, none⟩) 0 0) ([] : List Pu.CellD) := fun W => World.ownsRow_made W #[] 0 (Nat.le_refl _) (Nat.zero_le _) (by simp)
  have HNEW := hide hnew
  clear hnew
  rcases hd : (s.toList == [45]) with _ | _
  · have HWF := hide (mkC_wfs (s := s) (sep := Pu.commaB) (by omega))
    have hPs : Hid (∀ x ∈ Pu.splitA Pu.commaB s, x.size ≤ 1048576) := fun x hx => Nat.le_trans (Pu.splitA_size hx) hs
    have hPl := Pu.splitA_le Pu.commaB s
    have HD := hide hd
    have hb0 : Below w.heap.size w (w.alloc (.cells #[] 63 : Obj)) := below_alloc (Below.refl _ _) _
    go_enter Tryz.func89, Tryz.ntmps89
    go_wp2_with fail
    refine (sSplitAt_c _ _ _ (by omega) (by decide)).mono ?_; rintro e w1 ⟨v1, rfl, o1, b1⟩
    change OwnL w1 _ 9 1 strEn v1 (Pu.splitA Pu.commaB s) at o1
    have r1 : RdStr w1 v1 (Pu.splitA Pu.commaB s) := o1.rd (fun _ => rfl)
    have hown0 : OwnL w1 w.heap.size 63 2 cellEn (.slice (some ⟨w.heap.size, 0, none⟩) 0 0) ([] : List Pu.CellD) := (HNEW.out w).below b1 (Nat.le_refl _)
    generalize hP : Pu.splitA Pu.commaB s = P at HWF hPs hPl o1 r1
    have HP := hide hP
    have hblk : ∀ h, v1.ownBlock = some h → w.heap.size < h ∧ h < w1.heap.size := fun h e => by
      have h9 := OwnL.lt o1 e
      simp at h9; omega
    obtain ⟨A1, k1, rfl, hlc1, hcm1, hA1⟩ := r1.open_
    have HBLK : Hid (∀ (g o : Nat), A1 = some ⟨g, o, none⟩ → w.heap.size < g ∧ g < w1.heap.size) := fun g o e => by subst e; exact hblk g rfl
    have HR1 := hide r1
    clear hblk
    have HB1 := hide (below_then hb0 b1)
    clear o1 r1 hA1 b1 hP hd hb0
    go_wp2_with fail
    have hob0 : ∀ h, (Value.slice (some ⟨w.heap.size, 0, none⟩) 0 0).ownBlock = some h → h = w.heap.size ∨ w1.heap.size ≤ h := fun h e => .inl (Option.some.inj e).symm
    go_loopw [4, 17] (fun v i wr => ∃ k : Nat, k ≤ P.length ∧ i = .int .i64 k ∧ Hid ((P.take k).all Pu.okC = true) ∧ OwnL wr w.heap.size 63 2 cellEn v ((P.take k).map Pu.mkC) ∧ Hid (∀ h, v.ownBlock = some h → h = w.heap.size ∨ w1.heap.size ≤ h) ∧ Hid (RdStr wr (.slice A1 P.length k1) P) ∧ Below w.heap.size w wr ∧ w1.heap.size ≤ wr.heap.size) (fun _ i _ => P.length - (intOf i).toNat)
    case atStart => exact ⟨0, by omega, rfl, rfl, hown0, hob0, HR1.out, HB1.out, Nat.le_refl _⟩
    case round =>
      obtain ⟨k, hk, rfl, HAL, hown, HOB, HRD, hbw, hsz⟩ := hrel
      by_cases hlt : k < P.length
      · obtain ⟨g, o, rfl, hg, HC⟩ := (rd_at HRD.out).at_ (by omega)
        obtain ⟨x, HX, h0⟩ := str_get HC (Below.refl _ _) hlt
        have hxs := hPs.out x (List.mem_of_getElem? HX.out)
        have HBAD : Hid (Pu.okC x = false → Pu.pcOk s = false ∧ Pu.pcL s = []) := fun h => Pu.pc_bad HD.out (by rw [HP.out]; exact HX.out) h
        have hgb := HBLK.out g o rfl
        by_cases h2 : (Pu.splitA Pu.eqB x).length = 2
        · obtain ⟨hS, hO⟩ := Pu.split_two h2
          have HS := hide hS
          have hvz := Pu.cutV_size x
          clear hS h2
          obtain ⟨N, HN⟩ : ∃ N, Hid (Pu.pnV (Pu.cutV x).toList = N) := ⟨_, rfl⟩
          rcases hB : Pu.pnB (Pu.cutV x).toList with _ | _
          · have HF := hide (HBAD.out (by rw [Pu.okC, hO, hB]; rfl))
            go_wp2_with (first
              | (go_at_call 116; refine (splitEq_c x _ (by omega)).mono ?_; rintro e w2 ⟨v2, rfl, o2, b2⟩; rw [HS.out] at o2; have c2 := below_then hbw b2; have r2 : RdStr w2 v2 [Pu.cutK x, Pu.cutV x] := o2.rd (fun _ => rfl); obtain ⟨A2, k2, rfl, hk2, hk2m, hA2⟩ := r2.open_; obtain ⟨g2, o2', rfl, hg2, HC2⟩ := hA2.at_ (by simp); have hk2' : 2 ≤ k2 := hk2; have p1 : w2.cell? ⟨g2, o2' + 1, none⟩ = some (.string (Pu.cutV x)) := rd_one HC2)
              | (go_at_call 117; refine (sParseNumber_c _ _ (by unfold maxLen; omega)).mono ?_; rintro e w3 ⟨rfl, b3⟩; rw [hB, HN.out]; have c3 := below_then c2 b3))
            go_ret2
            exact ⟨_, by rw [HF.out.1]; rfl, by rw [HF.out.2]; exact (HNEW.out _).mono c3.size, below_alloc c3 _⟩
          · have hall1 := hide (Pu.all_take HAL.out HX.out (by rw [Pu.okC, hO, hB]; rfl))
            have hlenk : ((P.take k).map Pu.mkC).length < 1099511627776 := by rw [List.length_map, List.length_take]; omega
            go_wp2_with (first
              | (go_at_call 116; refine (splitEq_c x _ (by omega)).mono ?_; rintro e w2 ⟨v2, rfl, o2, b2⟩; rw [HS.out] at o2; have c2 := below_then hbw b2; have r2 : RdStr w2 v2 [Pu.cutK x, Pu.cutV x] := o2.rd (fun _ => rfl); obtain ⟨A2, k2, rfl, hk2, hk2m, hA2⟩ := r2.open_; obtain ⟨g2, o2', rfl, hg2, HC2⟩ := hA2.at_ (by simp); have hk2' : 2 ≤ k2 := hk2; have p1 : w2.cell? ⟨g2, o2' + 1, none⟩ = some (.string (Pu.cutV x)) := rd_one HC2)
              | (go_at_call 117; refine (sParseNumber_c _ _ (by unfold maxLen; omega)).mono ?_; rintro e w3 ⟨rfl, b3⟩; rw [hB, HN.out]; have c3 := below_then c2 b3; have d3 : Below wr.heap.size wr w3 := below_then b2 b3; have hown3 := hown.below d3 (Nat.le_refl _); have hrd3 := RdL.below HRD.out d3 (Nat.le_refl _); have p0 : w3.cell? ⟨g2, o2', none⟩ = some (.string (Pu.cutK x)) := (b3.cell (p := ⟨g2, o2', none⟩) hg2).trans (rd_zero HC2))
              | (at_builtin; go_must (refine push_law_at rfl _ _ 29 (by exact rfl) w.heap.size 63 i0 (.agg #[.string ByteArray.empty, .int .i64 0]) 2 24 Tryz.underlying29 hi hz0 hz1 hz2 rfl (by decide) cellEn _ _ (⟨Pu.cutK x, N⟩ : Pu.CellD) (by exact rfl) hown3 (by exact rfl) rfl (one_cellP _) c3.size hlenk (by decide) ?_); intro v4 w4 hown4 hg4 hat4))
            have hs3 : w1.heap.size ≤ w3.heap.size := Nat.le_trans hsz d3.size
            have c4 : Below w.heap.size w w4 := (below_alloc c3 _).grown hg4 (by have := c3.size; simp; omega) (fun j hj => (OwnL.lt hown3 hj).1)
            have hne : ∀ h, Value.ownBlock _ = some h → h ≠ g := fun h e => by
              rcases HOB.out h e with h9 | h9 <;> omega
            have hrd4 : RdStr w4 (.slice (some ⟨g, o, none⟩) P.length k1) P := rd_grown (RdL.below hrd3 (below_alloc (Below.refl _ _) _) (Nat.le_refl _)) hg4 (by simp; omega) (fun e => hne _ e rfl)
            go_roundw
            case rel => exact ⟨k + 1, by omega, by go_num, hall1, by rw [List.take_add_one, HX.out, List.map_append]; have e : (⟨Pu.cutK x, N⟩ : Pu.CellD) = Pu.mkC x := (by rw [Pu.mkC, HN.out]); rw [e] at hown4; exact hown4, fun h e => by
              rcases hat4 with h9 | h9
              · exact HOB.out h (h9.symm.trans e)
              · have := Option.some.inj (h9.symm.trans e); omega, hrd4, c4, by have := hg4.size; simp at this; omega⟩
            case measure => simp [intOf]; omega
        · have HF := hide (HBAD.out (Pu.not_two h2))
          obtain ⟨L2, HL2⟩ : ∃ L, Hid (Pu.splitA Pu.eqB x = L) := ⟨_, rfl⟩
          have hl2 := Pu.splitA_le Pu.eqB x
          rw [HL2.out] at h2 hl2
          have h2' : ¬ (L2.length : Int) = 2 := by omega
          go_wp2_with (first
            | (go_at_call 116; refine (splitEq_c x _ (by omega)).mono ?_; rintro e w2 ⟨v2, rfl, o2, b2⟩; rw [HL2.out] at o2; have c2 := below_then hbw b2; have r2 : RdStr w2 v2 L2 := o2.rd (fun _ => rfl); obtain ⟨A2, k2, rfl, hk2, hk2m, hA2⟩ := r2.open_))
          go_ret2
          exact ⟨_, by rw [HF.out.1]; rfl, by rw [HF.out.2]; exact (HNEW.out _).mono c2.size, below_alloc c2 _⟩
      · have hkk : P.take k = P := List.take_of_length_le (by omega)
        rw [hkk] at hown HAL
        have HF := hide (Pu.pc_cells (s := s) HD.out (by rw [HP.out]; exact HAL.out))
        rw [HP.out] at HF
        rcases hC : Pu.cellsB (P.map Pu.mkC) with _ | _
        · go_wp2_with (go_at_call 35; refine (sIsCells_c _ _ _ ⟨hown.rd (fun _ => rfl), HWF.out⟩).mono ?_; rintro e w5 ⟨rfl, b5⟩; rw [hC])
          go_ret2
          exact ⟨_, by rw [HF.out.1, hC]; rfl, by rw [HF.out.2, hC]; exact (HNEW.out _).mono (below_then hbw b5).size, below_alloc (below_then hbw b5) _⟩
        · go_wp2_with (go_at_call 35; refine (sIsCells_c _ _ _ ⟨hown.rd (fun _ => rfl), HWF.out⟩).mono ?_; rintro e w5 ⟨rfl, b5⟩; rw [hC])
          go_ret2
          exact ⟨_, by rw [HF.out.1, hC]; rfl, by rw [HF.out.2, hC]; exact hown.below b5 (Nat.le_refl _), below_then hbw b5⟩
  · have HF := hide (Pu.pc_dash hd)
    go_enter Tryz.func89, Tryz.ntmps89
    go_wp2
    go_ret2
    exact ⟨_, by rw [HF.out.1]; rfl, by rw [HF.out.2]; exact HNEW.out w, below_alloc (Below.refl _ _) _⟩
end Go.Proofs.YtllmcnmongaahaaGreatDoor
