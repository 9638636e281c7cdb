/- Contracts: IsPart. -/
import Derived.Test.YtnabpefjcgehiaaM2
import Derived.Test.YtnabpefjcgehiaaFace
import Derived.Deep.QuietTactic
import Derived.BigQuiet
namespace Go.Proofs.Ytnabpefjcgehiaa
open Go.ChangeShapes Go.WideShapes Go.ChangeAt Go.RowKit
set_option maxRecDepth 100000
def Pu.counts (s : List UInt8) : Bool := s == [99, 111, 117, 110, 116, 115] || s == [104, 101, 97, 114, 115]
def Pu.layB (p : Pu.PartD) (k : Nat) (x : Pu.LayerD) : Bool :=
  Pu.layOk x.name.toList && Pu.offersB (Pu.faceAt p k) (Pu.layN x.name.toList) && Pu.isNum x.count && (x.count == 0 || Pu.counts x.name.toList)
def Pu.laysB (p : Pu.PartD) : Bool := (List.range p.layers.length).all fun k => match p.layers[k]? with | some x => Pu.layB p k x | none => true
def Pu.partB (p : Pu.PartD) : Bool := Pu.coreB p.core && decide (p.layers.length ≤ 3) && Pu.laysB p
theorem Pu.laysB_no {p : Pu.PartD} {k : Nat} {x : Pu.LayerD} (hx : p.layers[k]? = some x) (h : Pu.layB p k x = false) : Pu.laysB p = false := by
  rw [Pu.laysB, List.all_eq_false]
  exact ⟨k, by simpa using (List.getElem?_eq_some_iff.1 hx).1, by simp [hx, h]⟩
theorem Pu.laysB_yes {p : Pu.PartD} (h : ∀ k x, k < p.layers.length → p.layers[k]? = some x → Pu.layB p k x = true) : Pu.laysB p = true := by
  rw [Pu.laysB, List.all_eq_true]
  intro k hk
  have hk' : k < p.layers.length := by simpa using hk
  simp only [List.getElem?_eq_getElem hk']
  exact h k _ hk' (List.getElem?_eq_getElem hk')
theorem two_cells {W : World} {g : Nat} {t : TypeId} {a b : Value} (h : W.heap[g]? = some (.cells #[a, b] t (0, 0))) :
    W.cell? ⟨g, 0, none⟩ = some a ∧ W.cell? ⟨g, 1, none⟩ = some b ∧ ∀ j, W.frozen? ⟨g, j, none⟩ = false :=
  ⟨cell_of_row W g 0 _ t (0, 0) h, cell_of_row W g 1 _ t (0, 0) h, fun j => frozen_of_row W g j _ t h⟩
set_option maxHeartbeats 2000000 in
theorem iIsPart_c (p : Pu.PartD) (s t : Value) (w : World) (_hw : CoreD.wf p.core) (hs : RdCells w s p.core.cells) (ht : RdL w 2 layerEn t p.layers) :
    Calls Try.prog 10 #[partV p s t] w fun e w' => e = .returned (.bool (Pu.partB p)) ∧ Below w.heap.size w w' := by
  unfold partV
  obtain ⟨A, c, rfl, hlc, hcm, hA⟩ := ht.open_
  have HA := hide hA
  have HS := hide hs
  have HT := hide ht
  clear hA hs ht
  have HW : Below w.heap.size w (w.alloc (.cells #[.string p.core.kind, .bool p.core.on, .bool p.core.broken, s, .int .i64 p.core.count, .slice A p.layers.length c] 31)) := below_alloc (Below.refl _ _) _
  go_enter Try.func10, Try.ntmps10
  go_wp2_with fail
  refine (iIsCore_c p.core s _ _hw (RdCells.below HS.out HW)).mono ?_; rintro e w1 ⟨rfl, hb1⟩
  have Y0 := hide ((hb1.block w.heap.size (by simp)).trans (heap_new rfl))
  have hs1 : w.heap.size < w1.heap.size := by have := hb1.size; simp at this; omega
  have B1 : Below w.heap.size w w1 := HW.trans (hb1.mono (by simp))
  obtain ⟨_, _, _, _, _, _, _⟩ := six_cells Y0.out
  clear hb1 HW
  rcases hsc : Pu.coreB p.core
  · have HE : Hid (Pu.partB p = false) := by rw [Hid, Pu.partB, hsc]; rfl
    go_wp2_with fail
    go_ret
    exact ⟨ret_bool HE.out.symm, B1⟩
  by_cases hl : p.layers.length ≤ 3
  · have HE : Hid (Pu.partB p = Pu.laysB p) := by rw [Hid, Pu.partB, hsc, decide_eq_true hl]; rfl
    clear hsc
    go_wp2_with fail
    go_loopw [21] (fun i wr => ∃ k : Nat, k ≤ p.layers.length ∧ i = .int .i64 k ∧ Hid (∀ j x, j < k → p.layers[j]? = some x → Pu.layB p j x = true) ∧ Below w1.heap.size w1 wr) (fun i _ => p.layers.length - (intOf i).toNat)
    case atStart => exact ⟨0, by omega, rfl, fun j x hj => absurd hj (by omega), Below.refl _ _⟩
    case round =>
      obtain ⟨k, hk, rfl, HI, hb⟩ := hrel
      by_cases hlt : k < p.layers.length
      · obtain ⟨g, o, rfl, hg, HC⟩ := HA.out.at_ (by omega)
        have hbw : Below w.heap.size w wr := below_then B1 hb
        obtain ⟨x, HX, h0, h1⟩ := layer_get HC hbw (k := k) hlt
        have Y := hide ((hb.block w.heap.size (by omega)).trans Y0.out)
        obtain ⟨_, _, _, _, _, _, _⟩ := six_cells Y.out
        have HB3 := hide hb
        have HB2 := hide hbw
        have hsr : w.heap.size < wr.heap.size := by have := hb.size; omega
        clear hb hbw
        have HA2 : Below w.heap.size w (wr.alloc (.cells #[.string x.name, .int .i64 x.count] 57)) := below_alloc HB2.out _
        go_wp2_with fail
        refine (iLayerFaces_c _ _).mono ?_; rintro e w2 ⟨rfl, rfl⟩
        rcases hok : Pu.layOk x.name.toList
        · have HF : Hid (Pu.layB p k x = false) := by rw [Hid, Pu.layB, hok]; rfl
          clear hok
          go_wp2_with fail
          go_ret
          exact ⟨ret_bool (by rw [HE.out, Pu.laysB_no HX.out HF.out]), HA2⟩
        have HK := hide hok
        clear hok
        go_wp2_with fail
        refine (iFaceBelow_c p s _ k _ (RdL.below HT.out HA2 (Nat.le_refl _)) hk).mono ?_; rintro e w3 ⟨rfl, hb3⟩
        have HB4 := hide (below_then HA2 hb3)
        have HB5 : Hid (Below w1.heap.size w1 w3) := hide (below_then (below_alloc HB3.out _) hb3)
        obtain ⟨_, _, _⟩ := two_cells ((hb3.block wr.heap.size (by simp)).trans (heap_new rfl))
        clear hb3 HA2
        go_wp2_with fail
        refine (iOffers_c _ _ _).mono ?_; rintro e w4 ⟨rfl, rfl⟩
        rcases hof : Pu.offersB (Pu.faceAt p k) (Pu.layN x.name.toList)
        · have HF : Hid (Pu.layB p k x = false) := by rw [Hid, Pu.layB, hof]; simp
          clear hof
          go_wp2_with fail
          go_ret
          exact ⟨ret_bool (by rw [HE.out, Pu.laysB_no HX.out HF.out]), HB4.out⟩
        have HO := hide hof
        clear hof
        go_wp2_with fail
        refine (isNumber_c _ _).mono ?_; rintro e w4 ⟨rfl, rfl⟩
        rcases hnu : Pu.isNum x.count
        · have HF : Hid (Pu.layB p k x = false) := by rw [Hid, Pu.layB, hnu]; simp
          clear hnu
          go_wp2_with fail
          go_ret
          exact ⟨ret_bool (by rw [HE.out, Pu.laysB_no HX.out HF.out]), HB4.out⟩
        have HN := hide hnu
        clear hnu
        have HL : Hid (Pu.layB p k x = (x.count == 0 || Pu.counts x.name.toList)) := by rw [Hid, Pu.layB, HK.out, HO.out, HN.out]; rfl
        have HS2 : Hid (Pu.layB p k x = true → ∀ j y, j < k + 1 → p.layers[j]? = some y → Pu.layB p j y = true) := fun h j y hj hy => by
          by_cases hjk : j < k
          · exact HI.out j y hjk hy
          · obtain rfl : j = k := by omega
            have e := HX.out.symm.trans hy
            cases e
            exact h
        by_cases hc0 : x.count = 0
        · have HT2 : Hid (Pu.layB p k x = true) := by rw [Hid, HL.out, hc0]; rfl
          go_wp2_with fail
          go_roundw
          case rel => exact ⟨k + 1, by omega, by go_num, HS2.out HT2.out, HB5.out⟩
          case measure => simp [intOf]; omega
        · rcases e1 : (x.name.toList == [99, 111, 117, 110, 116, 115])
          · rcases e2 : (x.name.toList == [104, 101, 97, 114, 115])
            · have HT2 : Hid (Pu.layB p k x = false) := by rw [Hid, HL.out, Pu.counts, e1, e2]; simp [hc0]
              go_wp2_with fail
              go_ret
              exact ⟨ret_bool (by rw [HE.out, Pu.laysB_no HX.out HT2.out]), HB4.out⟩
            · have HT2 : Hid (Pu.layB p k x = true) := by rw [Hid, HL.out, Pu.counts, e2]; simp
              go_wp2_with fail
              go_roundw
              case rel => exact ⟨k + 1, by omega, by go_num, HS2.out HT2.out, HB5.out⟩
              case measure => simp [intOf]; omega
          · have HT2 : Hid (Pu.layB p k x = true) := by rw [Hid, HL.out, Pu.counts, e1]; simp
            go_wp2_with fail
            go_roundw
            case rel => exact ⟨k + 1, by omega, by go_num, HS2.out HT2.out, HB5.out⟩
            case measure => simp [intOf]; omega
      · obtain rfl : k = p.layers.length := by omega
        go_wp2_with fail
        go_ret
        exact ⟨ret_bool (by rw [HE.out, Pu.laysB_yes HI.out]), below_then B1 hb⟩
  · have HE : Hid (Pu.partB p = false) := by rw [Hid, Pu.partB, decide_eq_false hl]; simp
    clear hsc
    go_wp2_with fail
    go_ret
    exact ⟨ret_bool HE.out.symm, B1⟩
set_option maxHeartbeats 2000000 in
theorem sIsPart_c (p : Pu.PartD) (s t : Value) (w : World) (hs : RdCells w s p.core.cells) (ht : RdL w 2 layerEn t p.layers) :
    Calls Try.prog 63 #[partV p s t] w fun e w' => e = .returned (.bool (Pu.partB p)) ∧ Below w.heap.size w w' := by
  unfold partV
  obtain ⟨A, c, rfl, hlc, hcm, hA⟩ := ht.open_
  have HA := hide hA
  have HS := hide hs
  have HT := hide ht
  clear hA hs ht
  have HW : Below w.heap.size w (w.alloc (.cells #[.string p.core.kind, .bool p.core.on, .bool p.core.broken, s, .int .i64 p.core.count, .slice A p.layers.length c] 31)) := below_alloc (Below.refl _ _) _
  go_enter Try.func63, Try.ntmps63
  go_wp2_with fail
  refine (sIsCore_c p.core s _ (RdCells.below HS.out HW)).mono ?_; rintro e w1 ⟨rfl, hb1⟩
  have Y0 := hide ((hb1.block w.heap.size (by simp)).trans (heap_new rfl))
  have hs1 : w.heap.size < w1.heap.size := by have := hb1.size; simp at this; omega
  have B1 : Below w.heap.size w w1 := HW.trans (hb1.mono (by simp))
  obtain ⟨_, _, _, _, _, _, _⟩ := six_cells Y0.out
  clear hb1 HW
  rcases hsc : Pu.coreB p.core
  · have HE : Hid (Pu.partB p = false) := by rw [Hid, Pu.partB, hsc]; rfl
    go_wp2_with fail
    go_ret
    exact ⟨ret_bool HE.out.symm, B1⟩
  by_cases hl : p.layers.length ≤ 3
  · have HE : Hid (Pu.partB p = Pu.laysB p) := by rw [Hid, Pu.partB, hsc, decide_eq_true hl]; rfl
    clear hsc
    go_wp2_with fail
    go_loopw [21] (fun i wr => ∃ k : Nat, k ≤ p.layers.length ∧ i = .int .i64 k ∧ Hid (∀ j x, j < k → p.layers[j]? = some x → Pu.layB p j x = true) ∧ Below w1.heap.size w1 wr) (fun i _ => p.layers.length - (intOf i).toNat)
    case atStart => exact ⟨0, by omega, rfl, fun j x hj => absurd hj (by omega), Below.refl _ _⟩
    case round =>
      obtain ⟨k, hk, rfl, HI, hb⟩ := hrel
      by_cases hlt : k < p.layers.length
      · obtain ⟨g, o, rfl, hg, HC⟩ := HA.out.at_ (by omega)
        have hbw : Below w.heap.size w wr := below_then B1 hb
        obtain ⟨x, HX, h0, h1⟩ := layer_get HC hbw (k := k) hlt
        have Y := hide ((hb.block w.heap.size (by omega)).trans Y0.out)
        obtain ⟨_, _, _, _, _, _, _⟩ := six_cells Y.out
        have HB3 := hide hb
        have HB2 := hide hbw
        have hsr : w.heap.size < wr.heap.size := by have := hb.size; omega
        clear hb hbw
        have HA2 : Below w.heap.size w (wr.alloc (.cells #[.string x.name, .int .i64 x.count] 57)) := below_alloc HB2.out _
        have hcn : ∀ q1 q2 : Bool, (x.name.toList == [99, 111, 117, 110, 116, 115]) = q1 → (x.name.toList == [104, 101, 97, 114, 115]) = q2 → Hid (Pu.counts x.name.toList = (q1 || q2)) := fun q1 q2 h1 h2 => by rw [Hid, Pu.counts, h1, h2]
        have HCN := hide hcn
        clear hcn
        go_wp2_with fail
        refine (sLayerNeeds_c _ _).mono ?_; rintro e w2 ⟨rfl, hb2⟩
        obtain ⟨_, _, _⟩ := two_cells ((hb2.block wr.heap.size (by simp)).trans (heap_new rfl))
        obtain ⟨_, _, _, _, _, _, _⟩ := six_cells ((hb2.block w.heap.size (by simp; omega)).trans (heap_old hsr Y.out))
        have HB2' := hide (below_then HA2 hb2)
        have HB3' : Hid (Below w1.heap.size w1 w2) := hide (below_then (below_alloc HB3.out _) hb2)
        have YL := hide ((hb2.block wr.heap.size (by simp)).trans (heap_new rfl))
        have hs2 : wr.heap.size < w2.heap.size := by have := hb2.size; simp at this; omega
        have hs2' : w.heap.size < w2.heap.size := by omega
        clear hb2 HA2
        rcases e1 : (x.name.toList == [99, 111, 117, 110, 116, 115]) <;> rcases e2 : (x.name.toList == [104, 101, 97, 114, 115])
        all_goals
          have HCV := HCN.out _ _ e1 e2
          rcases hok : Pu.layOk x.name.toList
          · have HF : Hid (Pu.layB p k x = false) := by rw [Hid, Pu.layB, hok]; rfl
            clear hok
            go_wp2_with fail
            go_ret
            exact ⟨ret_bool (by rw [HE.out, Pu.laysB_no HX.out HF.out]), HB2'.out⟩
          have HK := hide hok
          clear hok
          go_wp2_with fail
          refine (sFaceBelow_c p s _ k _ (RdL.below HT.out HB2'.out (Nat.le_refl _)) hk).mono ?_; rintro e w3 ⟨rfl, hb3⟩
          have HB4 := hide (below_then HB2'.out hb3)
          have HB5 : Hid (Below w1.heap.size w1 w3) := hide (below_then HB3'.out hb3)
          obtain ⟨_, _, _⟩ := two_cells ((hb3.block wr.heap.size hs2).trans YL.out)
          clear hb3
          go_wp2_with fail
          refine (sOffers_c _ _ _).mono ?_; rintro e w4 ⟨rfl, rfl⟩
          rcases hof : Pu.offersB (Pu.faceAt p k) (Pu.layN x.name.toList)
          · have HF : Hid (Pu.layB p k x = false) := by rw [Hid, Pu.layB, hof]; simp
            clear hof
            go_wp2_with fail
            go_ret
            exact ⟨ret_bool (by rw [HE.out, Pu.laysB_no HX.out HF.out]), HB4.out⟩
          have HO := hide hof
          clear hof
          by_cases hn0 : x.count < 0
          · have HF : Hid (Pu.layB p k x = false) := by rw [Hid, Pu.layB, Pu.isNum, decide_eq_false (by omega)]; simp
            go_wp2_with fail
            go_ret
            exact ⟨ret_bool (by rw [HE.out, Pu.laysB_no HX.out HF.out]), HB4.out⟩
          by_cases hn9 : 999 < x.count
          · have HF : Hid (Pu.layB p k x = false) := by rw [Hid, Pu.layB, Pu.isNum, decide_eq_false (p := x.count ≤ 999) (by omega)]; simp
            go_wp2_with fail
            go_ret
            exact ⟨ret_bool (by rw [HE.out, Pu.laysB_no HX.out HF.out]), HB4.out⟩
          have HL : Hid (Pu.layB p k x = (x.count == 0 || Pu.counts x.name.toList)) := by rw [Hid, Pu.layB, HK.out, HO.out, Pu.isNum, decide_eq_true (by omega), decide_eq_true (by omega)]; rfl
          have HS2 : Hid (Pu.layB p k x = true → ∀ j y, j < k + 1 → p.layers[j]? = some y → Pu.layB p j y = true) := fun h j y hj hy => by
            by_cases hjk : j < k
            · exact HI.out j y hjk hy
            · obtain rfl : j = k := by omega
              have e := HX.out.symm.trans hy
              cases e
              exact h
          by_cases hc0 : x.count = 0
          · have HT2 : Hid (Pu.layB p k x = true) := by rw [Hid, HL.out, hc0]; rfl
            go_wp2_with fail
            go_roundw
            case rel => exact ⟨k + 1, by omega, by go_num, HS2.out HT2.out, HB5.out⟩
            case measure => simp [intOf]; omega
          · have hcp : 0 < x.count := by omega
            first
            | (have HT2 : Hid (Pu.layB p k x = true) := by (rw [Hid, HL.out, HCV.out]; simp; done)
               go_wp2_with fail
               go_roundw
               case rel => exact ⟨k + 1, by omega, by go_num, HS2.out HT2.out, HB5.out⟩
               case measure => simp [intOf]; omega)
            | (have HT2 : Hid (Pu.layB p k x = false) := by (rw [Hid, HL.out, HCV.out]; simp [hc0])
               go_wp2_with fail
               go_ret
               exact ⟨ret_bool (by rw [HE.out, Pu.laysB_no HX.out HT2.out]), HB4.out⟩)
      · obtain rfl : k = p.layers.length := by omega
        go_wp2_with fail
        go_ret
        exact ⟨ret_bool (by rw [HE.out, Pu.laysB_yes HI.out]), below_then B1 hb⟩
  · have HE : Hid (Pu.partB p = false) := by rw [Hid, Pu.partB, decide_eq_false hl]; simp
    clear hsc
    go_wp2_with fail
    go_ret
    exact ⟨ret_bool HE.out.symm, B1⟩
end Go.Proofs.Ytnabpefjcgehiaa
