/- Contracts: MakePart. -/
import Derived.Test.YtnabpefjcgehiaaWrap2
import Derived.Test.YtnabpefjcgehiaaM2
namespace Go.Proofs.Ytnabpefjcgehiaa
open Go.ChangeShapes Go.WideShapes Go.ChangeAt Go.RowKit
set_option maxRecDepth 100000
def Pu.noPart : Pu.PartD := ⟨⟨⟨#[]⟩, false, false, [], 0⟩, []⟩
def Pu.makeOn (p : Pu.PartD) : List ByteArray → Pu.PartD × Pu.ReplyD
  | [] => (p, ⟨0, Pu.faceAt p p.layers.length, ⟨#[]⟩, 0, 0⟩)
  | n :: r => if (Pu.wrapR p n).code = 0 then Pu.makeOn (Pu.wrapP p n) r else (Pu.noPart, Pu.wrapR p n)
def Pu.make : List ByteArray → Pu.PartD × Pu.ReplyD
  | [] => (Pu.noPart, ⟨7, 0, ⟨#[]⟩, 0, 0⟩)
  | k :: r => if Pu.kindOk k.toList then Pu.makeOn (Pu.newPart k) r else (Pu.noPart, ⟨7, 0, ⟨#[]⟩, 0, 0⟩)
def Pu.makeP (l : List ByteArray) : Pu.PartD := (Pu.make l).1
def Pu.makeR (l : List ByteArray) : Pu.ReplyD := (Pu.make l).2
theorem Pu.wrapP_core (p : Pu.PartD) (n : ByteArray) : (Pu.wrapP p n).core = p.core := by unfold Pu.wrapP; split <;> rfl
theorem Pu.wrapP_layers (p : Pu.PartD) (n : ByteArray) : (Pu.wrapP p n).layers.length ≤ p.layers.length + 1 := by
  unfold Pu.wrapP
  split
  · simp
  · omega
theorem Pu.makeOn_len : ∀ (r : List ByteArray) (p : Pu.PartD), (Pu.makeOn p r).1.core.cells.length ≤ p.core.cells.length ∧ (Pu.makeOn p r).1.layers.length ≤ p.layers.length + r.length
  | [], p => by simp [Pu.makeOn]
  | n :: r, p => by
    rw [Pu.makeOn]
    split
    · have h := Pu.makeOn_len r (Pu.wrapP p n)
      rw [Pu.wrapP_core] at h
      have h2 := Pu.wrapP_layers p n
      simp only [List.length_cons]
      omega
    · simp [Pu.noPart]
theorem Pu.makeP_len {l : List ByteArray} (h : l.length ≤ 1048576) : (Pu.makeP l).core.cells.length ≤ 2097152 ∧ (Pu.makeP l).layers.length ≤ 2097152 := by
  unfold Pu.makeP
  rcases l with _ | ⟨k, r⟩
  · simp [Pu.make, Pu.noPart]
  · rw [Pu.make]
    split
    · have h2 := Pu.makeOn_len r (Pu.newPart k)
      have h3 : (Pu.newPart k).core.cells = [] := Pu.newCore_cells k
      have h4 : (Pu.newPart k).layers = [] := rfl
      rw [h3, h4] at h2
      simp only [List.length_nil, List.length_cons] at h2 h
      omega
    · simp [Pu.noPart]
set_option maxHeartbeats 8000000 in
theorem iMakePart_c (v : Value) (l : List ByteArray) (w : World) (hv : RdStr w v l) (hz : ∀ y ∈ l, y.size ≤ maxLen) (hl : l.length ≤ 1048576) :
    Calls Try.prog 7 #[v] w fun e w' => (∃ s' t', e = .returned (.tuple #[partV (Pu.makeP l) s' t', replyV (Pu.makeR l)]) ∧ OwnL w' w.heap.size 74 2 cellEn s' (Pu.makeP l).core.cells ∧ OwnL w' w.heap.size 57 2 layerEn t' (Pu.makeP l).layers ∧ (s'.ownBlock = none ∨ s'.ownBlock ≠ t'.ownBlock)) ∧ Below w.heap.size w w' := by
  obtain ⟨A, c, rfl, hlc, hcm, hA⟩ := hv.open_
  have HA := hide hA
  have HZ := hide hz
  clear hA hv hz
  rcases l with _ | ⟨k0, r0⟩
  · go_enter Try.func7, Try.ntmps7
    go_wp2_with fail
    exact bodyPost_ret (v := .tuple #[.agg #[.string ⟨#[]⟩, .bool false, .bool false, .slice none 0 0, .int .i64 0, .slice none 0 0], .agg #[.int .i64 7, .int .i64 0, .string ⟨#[]⟩, .int .i64 0, .int .i64 0]]) (by simp [results, Try.results7, go_sem]) rfl ⟨⟨_, _, rfl, OwnL.nil _ _ _ _ _, OwnL.nil _ _ _ _ _, .inl rfl⟩, below_alloc (below_alloc (Below.refl _ _) _) _⟩
  · obtain ⟨g, o, rfl, hg, HC⟩ := HA.out.at_ (by simp)
    obtain ⟨x, HX, h0⟩ := str_get HC (Below.refl _ _) (k := 0) (by simp)
    obtain rfl : x = k0 := by have e := HX.out; simpa using e.symm
    have h0' : w.cell? ⟨g, o, none⟩ = some (.string x) := h0
    have hl1 : r0.length ≤ 1048576 := by simp at hl; omega
    have hlen : (x :: r0).length = r0.length + 1 := rfl
    have hwf : CoreD.wf (Pu.newPart x).core := by
      have hx := HZ.out x (by simp)
      show CoreD.wf (Pu.newCore x)
      unfold Pu.newCore
      split
      · exact ⟨hx, by show (Lit.int .i64 0).wf = true; decide⟩
      · exact ⟨by show (ByteArray.empty).size ≤ maxLen; decide, by show (Lit.int .i64 0).wf = true; decide⟩
    have hnc : Hid ((Pu.newPart x).core.cells = []) := Pu.newCore_cells x
    have HWF := hide hwf
    clear hwf
    rw [hlen] at hlc
    rw [hlen]
    have hi0 : (0 : Int) < (r0.length : Int) + 1 := by omega
    have hne0 : ¬ (r0.length : Int) + 1 = 0 := by omega
    clear h0 HX
    go_enter Try.func7, Try.ntmps7
    obtain ⟨w0, hw0⟩ : ∃ w0, Hid ((w.alloc (.cells #[.string ⟨#[]⟩, .bool false, .bool false, .slice none 0 0, .int .i64 0, .slice none 0 0] 31 : Obj)).alloc (.cells #[.int .i64 0, .int .i64 0, .string ⟨#[]⟩, .int .i64 0, .int .i64 0] 33 : Obj) = w0) := ⟨_, rfl⟩
    have b0 : Below w.heap.size w w0 := by rw [← hw0.out]; exact below_alloc (below_alloc (Below.refl _ _) _) _
    have Y1 := hide (show w0.heap[w.heap.size]? = some (.cells #[.string ⟨#[]⟩, .bool false, .bool false, .slice none 0 0, .int .i64 0, .slice none 0 0] 31 : Obj) by rw [← hw0.out]; exact heap_old (by simp) (heap_new rfl))
    have YR := hide (show w0.heap[w.heap.size + 1]? = some (.cells #[.int .i64 0, .int .i64 0, .string ⟨#[]⟩, .int .i64 0, .int .i64 0] 33 : Obj) by rw [← hw0.out]; exact heap_new (by simp))
    have hs0 : Hid (w0.heap.size = w.heap.size + 1 + 1) := by rw [← hw0.out, Hid]; simp
    go_wp2_with fail
    rw [hw0.out]
    refine (iNewPart_c x _).mono ?_; rintro e w1 ⟨rfl, b1⟩
    unfold partV
    have B1' : Below w.heap.size w w1 := below_then b0 b1
    have U1 := hide (below_row b1 Y1.out)
    have UR := hide (below_row b1 YR.out)
    obtain ⟨a0, a1, a2, a3, a4, a5, af⟩ := six_cells U1.out
    obtain ⟨d0, d1, d2', d3, d4, df⟩ := five_cells UR.out
    have hL1 : w.heap.size < w1.heap.size := (Array.getElem?_eq_some_iff.1 U1.out).1
    have hLR : w.heap.size + 1 < w1.heap.size := (Array.getElem?_eq_some_iff.1 UR.out).1
    rcases hk : Pu.kindOk x.toList
    · have HM : Hid (Pu.make (x :: r0) = (Pu.noPart, ⟨7, 0, ⟨#[]⟩, 0, 0⟩)) := by rw [Hid, Pu.make, hk]; rfl
      clear hk
      go_wp2_with fail
      simp only [Pu.makeP, Pu.makeR, HM.out]
      have HB2 := below_alloc ((((((((((((B1'.setCell (p := ⟨w.heap.size, 0, none⟩) (by simp <;> omega) (Value.string ⟨#[]⟩)).setCell (p := ⟨w.heap.size, 1, none⟩) (by simp <;> omega) (Value.bool false)).setCell (p := ⟨w.heap.size, 2, none⟩) (by simp <;> omega) (Value.bool false)).setCell (p := ⟨w.heap.size, 3, none⟩) (by simp <;> omega) (Value.slice none 0 0)).setCell (p := ⟨w.heap.size, 4, none⟩) (by simp <;> omega) (Value.int .i64 0)).setCell (p := ⟨w.heap.size, 5, none⟩) (by simp <;> omega) (Value.slice none 0 0)).setCell (p := ⟨w.heap.size + 1, 0, none⟩) (by simp <;> omega) (Value.int .i64 7)).setCell (p := ⟨w.heap.size + 1, 1, none⟩) (by simp <;> omega) (Value.int .i64 0)).setCell (p := ⟨w.heap.size + 1, 2, none⟩) (by simp <;> omega) (Value.string ⟨#[]⟩)).setCell (p := ⟨w.heap.size + 1, 3, none⟩) (by simp <;> omega) (Value.int .i64 0)).setCell (p := ⟨w.heap.size + 1, 4, none⟩) (by simp <;> omega) (Value.int .i64 0))) (.cells #[.string (Pu.newPart x).core.kind, .bool (Pu.newPart x).core.on, .bool (Pu.newPart x).core.broken, .slice none 0 0, .int .i64 (Pu.newPart x).core.count, .slice none 0 0] 31 : Obj)
      exact bodyPost_ret (v := .tuple #[.agg #[.string ⟨#[]⟩, .bool false, .bool false, .slice none 0 0, .int .i64 0, .slice none 0 0], .agg #[.int .i64 7, .int .i64 0, .string ⟨#[]⟩, .int .i64 0, .int .i64 0]]) (by simp [results, Try.results7, go_sem, hL1, hLR, a0, a1, a2, a3, a4, a5, d0, d1, d2', d3, d4]) rfl ⟨⟨_, _, rfl, OwnL.nil _ _ _ _ _, OwnL.nil _ _ _ _ _, .inl rfl⟩, HB2⟩
    have HM : Hid (Pu.make (x :: r0) = Pu.makeOn (Pu.newPart x) r0) := by rw [Hid, Pu.make, hk]; rfl
    clear hk
    by_cases hcn : c = 1
    · have hr0 : r0.length ≤ 0 := by omega
      subst hcn
      go_wp2_with fail
      go_loopw [29] (fun i wr => ∃ (k : Nat) (P : Pu.PartD) (s t : Value), k ≤ r0.length ∧ i = .int .i64 k ∧ Hid (P.core = (Pu.newPart x).core) ∧ P.layers.length ≤ k ∧ Hid (Pu.makeOn (Pu.newPart x) r0 = Pu.makeOn P (r0.drop k)) ∧ Hid (Below w1.heap.size w1 wr) ∧ Hid (wr.heap[w1.heap.size]? = some (.cells #[.string P.core.kind, .bool P.core.on, .bool P.core.broken, s, .int .i64 P.core.count, t] 31 : Obj)) ∧ Hid (OwnL wr (w1.heap.size + 1) 74 2 cellEn s P.core.cells) ∧ Hid (OwnL wr (w1.heap.size + 1) 57 2 layerEn t P.layers) ∧ Hid (s.ownBlock = none ∨ s.ownBlock ≠ t.ownBlock)) (fun i _ => r0.length - (intOf i).toNat)
      case atStart => exact ⟨0, (Pu.newPart x), .slice none 0 0, .slice none 0 0, by omega, rfl, rfl, by simp [Pu.newPart], rfl, hide (below_alloc (Below.refl _ _) _), hide (heap_new rfl), hide (by rw [hnc.out]; exact OwnL.nil _ _ _ _ _), hide (OwnL.nil _ _ _ _ _), hide (.inl rfl)⟩
      case round =>
        obtain ⟨k, P, s, t, hkl, rfl, HPC, hPl, HMO, HB, HP, HO, HT, HD⟩ := hrel
        obtain ⟨_, _, _, _, _, _, _⟩ := six_cells HP.out
        have V1 := hide (below_row HB.out U1.out)
        have VR := hide (below_row HB.out UR.out)
        obtain ⟨a0, a1, a2, a3, a4, a5, af⟩ := six_cells V1.out
        obtain ⟨d0, d1, d2', d3, d4, df⟩ := five_cells VR.out
        have hpb : w1.heap.size < wr.heap.size := (Array.getElem?_eq_some_iff.1 HP.out).1
        obtain rfl : k = r0.length := by omega
        have rs : RdL wr 2 cellEn s P.core.cells := HO.out.rd (fun _ => rfl)
        have rt : RdL wr 2 layerEn t P.layers := HT.out.rd (fun _ => rfl)
        have HMO2 : Hid (Pu.makeOn (Pu.newPart x) r0 = (P, ⟨0, Pu.faceAt P P.layers.length, ⟨#[]⟩, 0, 0⟩)) := by rw [Hid, HMO.out, List.drop_length, Pu.makeOn]
        obtain ⟨As, ks, rfl⟩ := HO.out.shape
        obtain ⟨At, kt, rfl⟩ := HT.out.shape
        have hn1 : ¬ w.heap.size = w1.heap.size := by omega
        have hn2 : ¬ w.heap.size + 1 = w1.heap.size := by omega
        have hn3 : ¬ w1.heap.size = w.heap.size := by omega
        have hn4 : ¬ w1.heap.size = w.heap.size + 1 := by omega
        go_wp2_with fail
        go_region_held3 (fun w' => w'.cell? ⟨w1.heap.size, 0, none⟩ = some (.string P.core.kind) ∧ w'.cell? ⟨w1.heap.size, 1, none⟩ = some (.bool P.core.on) ∧ w'.cell? ⟨w1.heap.size, 2, none⟩ = some (.bool P.core.broken) ∧ w'.cell? ⟨w1.heap.size, 3, none⟩ = some (.slice As P.core.cells.length ks) ∧ w'.cell? ⟨w1.heap.size, 4, none⟩ = some (.int .i64 P.core.count) ∧ w'.cell? ⟨w1.heap.size, 5, none⟩ = some (.slice At P.layers.length kt)) (go_keep)
          (first
            | (go_at_call 13; refine (iFaceOf_c P _ _ _ (RdL.below rt (by first | exact Below.refl _ _ | exact (Below.refl _ _).drew) (Nat.le_refl _))).mono ?_; rintro e w6 ⟨rfl, b6⟩;
                   have b6' : Below wr.heap.size wr w6 := ⟨b6.os, b6.tape, b6.output, b6.size, b6.block⟩;
                   have KX : ∀ k : Nat, w6.cell? ⟨w1.heap.size, k, none⟩ = _ := fun k => World.cell?_of_block (b6'.block w1.heap.size hpb);
                   have z1 := hide (below_row b6' V1.out);
                   have zR := hide (below_row b6' VR.out);
                   obtain ⟨_, _, _, _, _, _, _⟩ := six_cells z1.out;
                   obtain ⟨_, _, _, _, _, _⟩ := five_cells zR.out))
        have O6 := hide (OwnL.below HO.out b6' (Nat.le_refl _))
        have P6 := hide (OwnL.below HT.out b6' (Nat.le_refl _))
        clear a0 a1 a2 a3 a4 a5 d0 d1 d2' d3 d4 af df
        obtain ⟨a0, a1, a2, a3, a4, a5, af⟩ := six_cells z1.out
        obtain ⟨d0, d1, d2', d3, d4, df⟩ := five_cells zR.out
        have B6 := below_then (below_then B1' HB.out) b6'
        have HB2 := (((((((((((B6.setCell (p := ⟨w.heap.size, 0, none⟩) (by simp <;> omega) (Value.string P.core.kind)).setCell (p := ⟨w.heap.size, 1, none⟩) (by simp <;> omega) (Value.bool P.core.on)).setCell (p := ⟨w.heap.size, 2, none⟩) (by simp <;> omega) (Value.bool P.core.broken)).setCell (p := ⟨w.heap.size, 3, none⟩) (by simp <;> omega) (Value.slice As P.core.cells.length ks)).setCell (p := ⟨w.heap.size, 4, none⟩) (by simp <;> omega) (Value.int .i64 P.core.count)).setCell (p := ⟨w.heap.size, 5, none⟩) (by simp <;> omega) (Value.slice At P.layers.length kt)).setCell (p := ⟨w.heap.size + 1, 0, none⟩) (by simp <;> omega) (Value.int .i64 0)).setCell (p := ⟨w.heap.size + 1, 1, none⟩) (by simp <;> omega) (Value.int .i64 (Pu.faceAt P P.layers.length))).setCell (p := ⟨w.heap.size + 1, 2, none⟩) (by simp <;> omega) (Value.string ⟨#[]⟩)).setCell (p := ⟨w.heap.size + 1, 3, none⟩) (by simp <;> omega) (Value.int .i64 0)).setCell (p := ⟨w.heap.size + 1, 4, none⟩) (by simp <;> omega) (Value.int .i64 0))
        go_wp2
        simp only [Pu.makeP, Pu.makeR, HM.out, HMO2.out]
        clear HM HMO2 HMO
        refine bodyPost_ret (v := .tuple #[.agg #[.string P.core.kind, .bool P.core.on, .bool P.core.broken, .slice As P.core.cells.length ks, .int .i64 P.core.count, .slice At P.layers.length kt], .agg #[.int .i64 0, .int .i64 (Pu.faceAt P P.layers.length), .string ⟨#[]⟩, .int .i64 0, .int .i64 0]]) (by simp [results, Try.results7, go_sem, a0, a1, a2, a3, a4, a5, d0, d1, d2', d3, d4]) rfl ⟨⟨_, _, rfl, ?_, ?_, HD.out⟩, HB2⟩
        · refine OwnL.mono (b' := w.heap.size) (base := w1.heap.size + 1) ?_ (by omega)
          have HO' := O6.out
          iterate 11 refine OwnL.set ?_ (by simp <;> omega) _
          exact HO'
        · refine OwnL.mono (b' := w.heap.size) (base := w1.heap.size + 1) ?_ (by omega)
          have HO' := P6.out
          iterate 11 refine OwnL.set ?_ (by simp <;> omega) _
          exact HO'
    · skip
      go_wp2_with fail
      go_loopw [29] (fun i wr => ∃ (k : Nat) (P : Pu.PartD) (s t : Value), k ≤ r0.length ∧ i = .int .i64 k ∧ Hid (P.core = (Pu.newPart x).core) ∧ P.layers.length ≤ k ∧ Hid (Pu.makeOn (Pu.newPart x) r0 = Pu.makeOn P (r0.drop k)) ∧ Hid (Below w1.heap.size w1 wr) ∧ Hid (wr.heap[w1.heap.size]? = some (.cells #[.string P.core.kind, .bool P.core.on, .bool P.core.broken, s, .int .i64 P.core.count, t] 31 : Obj)) ∧ Hid (OwnL wr (w1.heap.size + 1) 74 2 cellEn s P.core.cells) ∧ Hid (OwnL wr (w1.heap.size + 1) 57 2 layerEn t P.layers) ∧ Hid (s.ownBlock = none ∨ s.ownBlock ≠ t.ownBlock)) (fun i _ => r0.length - (intOf i).toNat)
      case atStart => exact ⟨0, (Pu.newPart x), .slice none 0 0, .slice none 0 0, by omega, rfl, rfl, by simp [Pu.newPart], rfl, hide (below_alloc (Below.refl _ _) _), hide (heap_new rfl), hide (by rw [hnc.out]; exact OwnL.nil _ _ _ _ _), hide (OwnL.nil _ _ _ _ _), hide (.inl rfl)⟩
      case round =>
        obtain ⟨k, P, s, t, hkl, rfl, HPC, hPl, HMO, HB, HP, HO, HT, HD⟩ := hrel
        obtain ⟨_, _, _, _, _, _, _⟩ := six_cells HP.out
        have V1 := hide (below_row HB.out U1.out)
        have VR := hide (below_row HB.out UR.out)
        obtain ⟨a0, a1, a2, a3, a4, a5, af⟩ := six_cells V1.out
        obtain ⟨d0, d1, d2', d3, d4, df⟩ := five_cells VR.out
        have hpb : w1.heap.size < wr.heap.size := (Array.getElem?_eq_some_iff.1 HP.out).1
        by_cases hlt : k < r0.length
        · obtain ⟨y, HY, hy⟩ := str_get HC (below_then B1' HB.out) (k := k + 1) (by simp; omega)
          have hy' : wr.cell? ⟨g, o + 1 + k, none⟩ = some (.string y) := by rw [show o + 1 + k = o + (k + 1) by omega]; exact hy
          have hyr : Hid (r0[k]? = some y) := hide (by have e := HY.out; simpa using e)
          have HDR := hide (dropL hyr)
          have hpc : P.core.cells = [] := by rw [HPC.out]; exact hnc.out
          have HPW : Hid (CoreD.wf P.core) := by rw [Hid, HPC.out]; exact HWF.out
          have rs : RdL wr 2 cellEn s P.core.cells := HO.out.rd (fun _ => rfl)
          have rt : RdL wr 2 layerEn t P.layers := HT.out.rd (fun _ => rfl)
          have RS := hide (show RdCells wr s P.core.cells from ⟨rs, by rw [hpc]; simp⟩)
          have hcl : P.core.cells.length ≤ 16777216 := by rw [hpc]; simp
          have hll : P.layers.length ≤ 16777216 := by omega
          clear hy hpc
          go_wp2_with fail
          refine (iWrap_c P y s t wr HPW.out RS.out rt hcl hll).mono ?_; rintro e w2 ⟨⟨s2, t2, rfl, o2, p2, n2⟩, b2⟩
          obtain ⟨A2, k2, rfl⟩ := o2.shape
          obtain ⟨B2, l2, rfl⟩ := p2.shape
          unfold partV replyV
          have HP2 := hide (below_row b2 HP.out)
          have V12 := hide (below_row b2 V1.out)
          have VR2 := hide (below_row b2 VR.out)
          obtain ⟨e0, e1, e2, e3, e4, e5, ef⟩ := six_cells HP2.out
          obtain ⟨a0, a1, a2, a3, a4, a5, af⟩ := six_cells V12.out
          obtain ⟨d0, d1, d2', d3, d4, df⟩ := five_cells VR2.out
          have hp2 : w1.heap.size < w2.heap.size := (Array.getElem?_eq_some_iff.1 HP2.out).1
          have hL12 : w.heap.size < w2.heap.size := (Array.getElem?_eq_some_iff.1 V12.out).1
          have hLR2 : w.heap.size + 1 < w2.heap.size := (Array.getElem?_eq_some_iff.1 VR2.out).1
          have HB2' := hide (below_then HB.out b2)
          have HO2 := hide o2
          have HT2 := hide p2
          have HN2 := hide n2
          clear o2 p2 n2 b2 rs rt
          by_cases hcode : (Pu.wrapR P y).code = 0
          · have HMO2 : Hid (Pu.makeOn (Pu.newPart x) r0 = Pu.makeOn (Pu.wrapP P y) (r0.drop (k + 1))) := by rw [Hid, HMO.out, HDR.out, Pu.makeOn, if_pos hcode]
            go_wp2_with fail
            go_roundw
            case rel =>
              refine ⟨k + 1, Pu.wrapP P y, .slice A2 (Pu.wrapP P y).core.cells.length k2, .slice B2 (Pu.wrapP P y).layers.length l2, by omega, by go_num, ?_, ?_, HMO2, ?_, ?_, ?_, ?_, HN2⟩
              · rw [Hid, Pu.wrapP_core]; exact HPC.out
              · have := Pu.wrapP_layers P y; omega
              · exact hide (below_alloc (below_alloc ((((((HB2'.out.setCell (Nat.le_refl _) _).setCell (Nat.le_refl _) _).setCell (Nat.le_refl _) _).setCell (Nat.le_refl _) _).setCell (Nat.le_refl _) _).setCell (Nat.le_refl _) _) _) _)
              · refine hide (heap_old (by simp; omega) (heap_old (by simp; omega) ?_))
                exact Joins.block_setCell (Joins.block_setCell (Joins.block_setCell (Joins.block_setCell (Joins.block_setCell (Joins.block_setCell HP2.out _) _) _) _) _) _
              · refine hide (OwnL.mono (b' := w1.heap.size + 1) (base := wr.heap.size) (OwnL.below (OwnL.below ?_ (below_alloc (Below.refl _ _) _) (Nat.le_refl _)) (below_alloc (Below.refl _ _) _) (Nat.le_refl _)) (by omega))
                have HO' := HO2.out
                iterate 6 refine OwnL.set ?_ (by simp <;> omega) _
                exact HO'
              · refine hide (OwnL.mono (b' := w1.heap.size + 1) (base := wr.heap.size) (OwnL.below (OwnL.below ?_ (below_alloc (Below.refl _ _) _) (Nat.le_refl _)) (below_alloc (Below.refl _ _) _) (Nat.le_refl _)) (by omega))
                have HO' := HT2.out
                iterate 6 refine OwnL.set ?_ (by simp <;> omega) _
                exact HO'
            case measure => simp [intOf]; omega
          · have HMO2 : Hid (Pu.makeOn (Pu.newPart x) r0 = (Pu.noPart, Pu.wrapR P y)) := by rw [Hid, HMO.out, HDR.out, Pu.makeOn, if_neg hcode]
            go_wp2_with fail
            obtain ⟨M, hM⟩ : ∃ M, Hid ((w2.alloc (.cells #[.string (Pu.wrapP P y).core.kind, .bool (Pu.wrapP P y).core.on, .bool (Pu.wrapP P y).core.broken, .slice A2 (Pu.wrapP P y).core.cells.length k2, .int .i64 (Pu.wrapP P y).core.count, .slice B2 (Pu.wrapP P y).layers.length l2] 31 : Obj)).alloc (.cells #[.int .i64 (Pu.wrapR P y).code, .int .i64 (Pu.wrapR P y).value, .string (Pu.wrapR P y).text, .int .i64 (Pu.wrapR P y).want, .int .i64 (Pu.wrapR P y).had] 33 : Obj) = M) := ⟨_, rfl⟩
            have HRR := hide (show M.heap[w2.heap.size + 1]? = some (.cells #[.int .i64 (Pu.wrapR P y).code, .int .i64 (Pu.wrapR P y).value, .string (Pu.wrapR P y).text, .int .i64 (Pu.wrapR P y).want, .int .i64 (Pu.wrapR P y).had] 33 : Obj) by rw [← hM.out]; exact heap_new (by simp))
            have V1M := hide (show M.heap[w.heap.size]? = some (.cells #[.string ⟨#[]⟩, .bool false, .bool false, .slice none 0 0, .int .i64 0, .slice none 0 0] 31 : Obj) by rw [← hM.out]; exact heap_old (by simp; omega) (heap_old (by omega) V12.out))
            have VRM := hide (show M.heap[w.heap.size + 1]? = some (.cells #[.int .i64 0, .int .i64 0, .string ⟨#[]⟩, .int .i64 0, .int .i64 0] 33 : Obj) by rw [← hM.out]; exact heap_old (by simp; omega) (heap_old (by omega) VR2.out))
            have HBM := hide (show Below w.heap.size w M by rw [← hM.out]; exact below_alloc (below_alloc (below_then B1' HB2'.out) _) _)
            rw [hM.out]
            obtain ⟨f0, f1, f2, f3, f4, ff⟩ := five_cells HRR.out
            clear a0 a1 a2 a3 a4 a5 d0 d1 d2' d3 d4 e0 e1 e2 e3 e4 e5 ef af df
            obtain ⟨a0, a1, a2, a3, a4, a5, af⟩ := six_cells V1M.out
            obtain ⟨d0, d1, d2', d3, d4, df⟩ := five_cells VRM.out
            have hq5 : ¬ w2.heap.size = w.heap.size := by omega
            have hq6 : ¬ w.heap.size = w2.heap.size := by omega
            have hq1 : ¬ w.heap.size = w2.heap.size + 1 := by omega
            have hq2 : ¬ w.heap.size + 1 = w2.heap.size + 1 := by omega
            have hq3 : ¬ w2.heap.size + 1 = w.heap.size := by omega
            have hq4 : ¬ w2.heap.size + 1 = w.heap.size + 1 := by omega
            go_region_held3 (fun w' => w'.cell? ⟨w2.heap.size + 1, 0, none⟩ = some (.int .i64 (Pu.wrapR P y).code) ∧ w'.cell? ⟨w2.heap.size + 1, 1, none⟩ = some (.int .i64 (Pu.wrapR P y).value) ∧ w'.cell? ⟨w2.heap.size + 1, 2, none⟩ = some (.string (Pu.wrapR P y).text) ∧ w'.cell? ⟨w2.heap.size + 1, 3, none⟩ = some (.int .i64 (Pu.wrapR P y).want) ∧ w'.cell? ⟨w2.heap.size + 1, 4, none⟩ = some (.int .i64 (Pu.wrapR P y).had)) (go_keep) (fail)
            have HB2 := Below.drew ((((((((((((HBM.out.setCell (p := ⟨w.heap.size, 0, none⟩) (by simp <;> omega) (Value.string ⟨#[]⟩)).setCell (p := ⟨w.heap.size, 1, none⟩) (by simp <;> omega) (Value.bool false)).setCell (p := ⟨w.heap.size, 2, none⟩) (by simp <;> omega) (Value.bool false)).setCell (p := ⟨w.heap.size, 3, none⟩) (by simp <;> omega) (Value.slice none 0 0)).setCell (p := ⟨w.heap.size, 4, none⟩) (by simp <;> omega) (Value.int .i64 0)).setCell (p := ⟨w.heap.size, 5, none⟩) (by simp <;> omega) (Value.slice none 0 0)).setCell (p := ⟨w.heap.size + 1, 0, none⟩) (by simp <;> omega) (Value.int .i64 (Pu.wrapR P y).code)).setCell (p := ⟨w.heap.size + 1, 1, none⟩) (by simp <;> omega) (Value.int .i64 (Pu.wrapR P y).value)).setCell (p := ⟨w.heap.size + 1, 2, none⟩) (by simp <;> omega) (Value.string (Pu.wrapR P y).text)).setCell (p := ⟨w.heap.size + 1, 3, none⟩) (by simp <;> omega) (Value.int .i64 (Pu.wrapR P y).want)).setCell (p := ⟨w.heap.size + 1, 4, none⟩) (by simp <;> omega) (Value.int .i64 (Pu.wrapR P y).had)))
            go_wp2
            simp only [Pu.makeP, Pu.makeR, HM.out, HMO2.out]
            clear HM HMO2 HMO
            exact bodyPost_ret (v := .tuple #[.agg #[.string ⟨#[]⟩, .bool false, .bool false, .slice none 0 0, .int .i64 0, .slice none 0 0], .agg #[.int .i64 (Pu.wrapR P y).code, .int .i64 (Pu.wrapR P y).value, .string (Pu.wrapR P y).text, .int .i64 (Pu.wrapR P y).want, .int .i64 (Pu.wrapR P y).had]]) (by simp [results, Try.results7, go_sem, a0, a1, a2, a3, a4, a5, d0, d1, d2', d3, d4]) rfl ⟨⟨_, _, rfl, OwnL.nil _ _ _ _ _, OwnL.nil _ _ _ _ _, .inl rfl⟩, HB2⟩
        · obtain rfl : k = r0.length := by omega
          have rs : RdL wr 2 cellEn s P.core.cells := HO.out.rd (fun _ => rfl)
          have rt : RdL wr 2 layerEn t P.layers := HT.out.rd (fun _ => rfl)
          have HMO2 : Hid (Pu.makeOn (Pu.newPart x) r0 = (P, ⟨0, Pu.faceAt P P.layers.length, ⟨#[]⟩, 0, 0⟩)) := by rw [Hid, HMO.out, List.drop_length, Pu.makeOn]
          obtain ⟨As, ks, rfl⟩ := HO.out.shape
          obtain ⟨At, kt, rfl⟩ := HT.out.shape
          have hn1 : ¬ w.heap.size = w1.heap.size := by omega
          have hn2 : ¬ w.heap.size + 1 = w1.heap.size := by omega
          have hn3 : ¬ w1.heap.size = w.heap.size := by omega
          have hn4 : ¬ w1.heap.size = w.heap.size + 1 := by omega
          go_wp2_with fail
          go_region_held3 (fun w' => w'.cell? ⟨w1.heap.size, 0, none⟩ = some (.string P.core.kind) ∧ w'.cell? ⟨w1.heap.size, 1, none⟩ = some (.bool P.core.on) ∧ w'.cell? ⟨w1.heap.size, 2, none⟩ = some (.bool P.core.broken) ∧ w'.cell? ⟨w1.heap.size, 3, none⟩ = some (.slice As P.core.cells.length ks) ∧ w'.cell? ⟨w1.heap.size, 4, none⟩ = some (.int .i64 P.core.count) ∧ w'.cell? ⟨w1.heap.size, 5, none⟩ = some (.slice At P.layers.length kt)) (go_keep)
            (first
              | (go_at_call 13; refine (iFaceOf_c P _ _ _ (RdL.below rt (by first | exact Below.refl _ _ | exact (Below.refl _ _).drew) (Nat.le_refl _))).mono ?_; rintro e w6 ⟨rfl, b6⟩;
                     have b6' : Below wr.heap.size wr w6 := ⟨b6.os, b6.tape, b6.output, b6.size, b6.block⟩;
                     have KX : ∀ k : Nat, w6.cell? ⟨w1.heap.size, k, none⟩ = _ := fun k => World.cell?_of_block (b6'.block w1.heap.size hpb);
                     have z1 := hide (below_row b6' V1.out);
                     have zR := hide (below_row b6' VR.out);
                     obtain ⟨_, _, _, _, _, _, _⟩ := six_cells z1.out;
                     obtain ⟨_, _, _, _, _, _⟩ := five_cells zR.out))
          have O6 := hide (OwnL.below HO.out b6' (Nat.le_refl _))
          have P6 := hide (OwnL.below HT.out b6' (Nat.le_refl _))
          clear a0 a1 a2 a3 a4 a5 d0 d1 d2' d3 d4 af df
          obtain ⟨a0, a1, a2, a3, a4, a5, af⟩ := six_cells z1.out
          obtain ⟨d0, d1, d2', d3, d4, df⟩ := five_cells zR.out
          have B6 := below_then (below_then B1' HB.out) b6'
          have HB2 := (((((((((((B6.setCell (p := ⟨w.heap.size, 0, none⟩) (by simp <;> omega) (Value.string P.core.kind)).setCell (p := ⟨w.heap.size, 1, none⟩) (by simp <;> omega) (Value.bool P.core.on)).setCell (p := ⟨w.heap.size, 2, none⟩) (by simp <;> omega) (Value.bool P.core.broken)).setCell (p := ⟨w.heap.size, 3, none⟩) (by simp <;> omega) (Value.slice As P.core.cells.length ks)).setCell (p := ⟨w.heap.size, 4, none⟩) (by simp <;> omega) (Value.int .i64 P.core.count)).setCell (p := ⟨w.heap.size, 5, none⟩) (by simp <;> omega) (Value.slice At P.layers.length kt)).setCell (p := ⟨w.heap.size + 1, 0, none⟩) (by simp <;> omega) (Value.int .i64 0)).setCell (p := ⟨w.heap.size + 1, 1, none⟩) (by simp <;> omega) (Value.int .i64 (Pu.faceAt P P.layers.length))).setCell (p := ⟨w.heap.size + 1, 2, none⟩) (by simp <;> omega) (Value.string ⟨#[]⟩)).setCell (p := ⟨w.heap.size + 1, 3, none⟩) (by simp <;> omega) (Value.int .i64 0)).setCell (p := ⟨w.heap.size + 1, 4, none⟩) (by simp <;> omega) (Value.int .i64 0))
          go_wp2
          simp only [Pu.makeP, Pu.makeR, HM.out, HMO2.out]
          clear HM HMO2 HMO
          refine bodyPost_ret (v := .tuple #[.agg #[.string P.core.kind, .bool P.core.on, .bool P.core.broken, .slice As P.core.cells.length ks, .int .i64 P.core.count, .slice At P.layers.length kt], .agg #[.int .i64 0, .int .i64 (Pu.faceAt P P.layers.length), .string ⟨#[]⟩, .int .i64 0, .int .i64 0]]) (by simp [results, Try.results7, go_sem, a0, a1, a2, a3, a4, a5, d0, d1, d2', d3, d4]) rfl ⟨⟨_, _, rfl, ?_, ?_, HD.out⟩, HB2⟩
          · refine OwnL.mono (b' := w.heap.size) (base := w1.heap.size + 1) ?_ (by omega)
            have HO' := O6.out
            iterate 11 refine OwnL.set ?_ (by simp <;> omega) _
            exact HO'
          · refine OwnL.mono (b' := w.heap.size) (base := w1.heap.size + 1) ?_ (by omega)
            have HO' := P6.out
            iterate 11 refine OwnL.set ?_ (by simp <;> omega) _
            exact HO'
set_option maxHeartbeats 8000000 in
theorem sMakePart_c (v : Value) (l : List ByteArray) (w : World) (hv : RdStr w v l) (hz : ∀ y ∈ l, y.size ≤ maxLen) (hl : l.length ≤ 1048576) :
    Calls Try.prog 50 #[v] w fun e w' => (∃ s' t', e = .returned (.tuple #[partV (Pu.makeP l) s' t', replyV (Pu.makeR l)]) ∧ OwnL w' w.heap.size 74 2 cellEn s' (Pu.makeP l).core.cells ∧ OwnL w' w.heap.size 57 2 layerEn t' (Pu.makeP l).layers ∧ (s'.ownBlock = none ∨ s'.ownBlock ≠ t'.ownBlock)) ∧ Below w.heap.size w w' := by
  obtain ⟨A, c, rfl, hlc, hcm, hA⟩ := hv.open_
  have HA := hide hA
  have HZ := hide hz
  clear hA hv hz
  rcases l with _ | ⟨k0, r0⟩
  · go_enter Try.func50, Try.ntmps50
    go_wp2_with fail
    exact bodyPost_ret (v := .tuple #[.agg #[.string ⟨#[]⟩, .bool false, .bool false, .slice none 0 0, .int .i64 0, .slice none 0 0], .agg #[.int .i64 7, .int .i64 0, .string ⟨#[]⟩, .int .i64 0, .int .i64 0]]) (by simp [results, Try.results50, go_sem]) rfl ⟨⟨_, _, rfl, OwnL.nil _ _ _ _ _, OwnL.nil _ _ _ _ _, .inl rfl⟩, below_alloc (below_alloc (Below.refl _ _) _) _⟩
  · obtain ⟨g, o, rfl, hg, HC⟩ := HA.out.at_ (by simp)
    obtain ⟨x, HX, h0⟩ := str_get HC (Below.refl _ _) (k := 0) (by simp)
    obtain rfl : x = k0 := by have e := HX.out; simpa using e.symm
    have h0' : w.cell? ⟨g, o, none⟩ = some (.string x) := h0
    have hl1 : r0.length ≤ 1048576 := by simp at hl; omega
    have hlen : (x :: r0).length = r0.length + 1 := rfl
    have hwf : CoreD.wf (Pu.newPart x).core := by
      have hx := HZ.out x (by simp)
      show CoreD.wf (Pu.newCore x)
      unfold Pu.newCore
      split
      · exact ⟨hx, by show (Lit.int .i64 0).wf = true; decide⟩
      · exact ⟨by show (ByteArray.empty).size ≤ maxLen; decide, by show (Lit.int .i64 0).wf = true; decide⟩
    have hnc : Hid ((Pu.newPart x).core.cells = []) := Pu.newCore_cells x
    have HWF := hide hwf
    clear hwf
    rw [hlen] at hlc
    rw [hlen]
    have hi0 : (0 : Int) < (r0.length : Int) + 1 := by omega
    have hne0 : ¬ (r0.length : Int) + 1 = 0 := by omega
    clear h0 HX
    go_enter Try.func50, Try.ntmps50
    obtain ⟨w0, hw0⟩ : ∃ w0, Hid ((w.alloc (.cells #[.string ⟨#[]⟩, .bool false, .bool false, .slice none 0 0, .int .i64 0, .slice none 0 0] 31 : Obj)).alloc (.cells #[.int .i64 0, .int .i64 0, .string ⟨#[]⟩, .int .i64 0, .int .i64 0] 33 : Obj) = w0) := ⟨_, rfl⟩
    have b0 : Below w.heap.size w w0 := by rw [← hw0.out]; exact below_alloc (below_alloc (Below.refl _ _) _) _
    have Y1 := hide (show w0.heap[w.heap.size]? = some (.cells #[.string ⟨#[]⟩, .bool false, .bool false, .slice none 0 0, .int .i64 0, .slice none 0 0] 31 : Obj) by rw [← hw0.out]; exact heap_old (by simp) (heap_new rfl))
    have YR := hide (show w0.heap[w.heap.size + 1]? = some (.cells #[.int .i64 0, .int .i64 0, .string ⟨#[]⟩, .int .i64 0, .int .i64 0] 33 : Obj) by rw [← hw0.out]; exact heap_new (by simp))
    have hs0 : Hid (w0.heap.size = w.heap.size + 1 + 1) := by rw [← hw0.out, Hid]; simp
    go_wp2_with fail
    rw [hw0.out]
    refine (sNewPart_c x _).mono ?_; rintro e w1 ⟨rfl, b1⟩
    unfold partV
    have B1' : Below w.heap.size w w1 := below_then b0 b1
    have U1 := hide (below_row b1 Y1.out)
    have UR := hide (below_row b1 YR.out)
    obtain ⟨a0, a1, a2, a3, a4, a5, af⟩ := six_cells U1.out
    obtain ⟨d0, d1, d2', d3, d4, df⟩ := five_cells UR.out
    have hL1 : w.heap.size < w1.heap.size := (Array.getElem?_eq_some_iff.1 U1.out).1
    have hLR : w.heap.size + 1 < w1.heap.size := (Array.getElem?_eq_some_iff.1 UR.out).1
    rcases hk : Pu.kindOk x.toList
    · have HM : Hid (Pu.make (x :: r0) = (Pu.noPart, ⟨7, 0, ⟨#[]⟩, 0, 0⟩)) := by rw [Hid, Pu.make, hk]; rfl
      clear hk
      go_wp2_with fail
      simp only [Pu.makeP, Pu.makeR, HM.out]
      have HB2 := below_alloc ((((((((((((B1'.setCell (p := ⟨w.heap.size, 0, none⟩) (by simp <;> omega) (Value.string ⟨#[]⟩)).setCell (p := ⟨w.heap.size, 1, none⟩) (by simp <;> omega) (Value.bool false)).setCell (p := ⟨w.heap.size, 2, none⟩) (by simp <;> omega) (Value.bool false)).setCell (p := ⟨w.heap.size, 3, none⟩) (by simp <;> omega) (Value.slice none 0 0)).setCell (p := ⟨w.heap.size, 4, none⟩) (by simp <;> omega) (Value.int .i64 0)).setCell (p := ⟨w.heap.size, 5, none⟩) (by simp <;> omega) (Value.slice none 0 0)).setCell (p := ⟨w.heap.size + 1, 0, none⟩) (by simp <;> omega) (Value.int .i64 7)).setCell (p := ⟨w.heap.size + 1, 1, none⟩) (by simp <;> omega) (Value.int .i64 0)).setCell (p := ⟨w.heap.size + 1, 2, none⟩) (by simp <;> omega) (Value.string ⟨#[]⟩)).setCell (p := ⟨w.heap.size + 1, 3, none⟩) (by simp <;> omega) (Value.int .i64 0)).setCell (p := ⟨w.heap.size + 1, 4, none⟩) (by simp <;> omega) (Value.int .i64 0))) (.cells #[.string (Pu.newPart x).core.kind, .bool (Pu.newPart x).core.on, .bool (Pu.newPart x).core.broken, .slice none 0 0, .int .i64 (Pu.newPart x).core.count, .slice none 0 0] 31 : Obj)
      exact bodyPost_ret (v := .tuple #[.agg #[.string ⟨#[]⟩, .bool false, .bool false, .slice none 0 0, .int .i64 0, .slice none 0 0], .agg #[.int .i64 7, .int .i64 0, .string ⟨#[]⟩, .int .i64 0, .int .i64 0]]) (by simp [results, Try.results50, go_sem, hL1, hLR, a0, a1, a2, a3, a4, a5, d0, d1, d2', d3, d4]) rfl ⟨⟨_, _, rfl, OwnL.nil _ _ _ _ _, OwnL.nil _ _ _ _ _, .inl rfl⟩, HB2⟩
    have HM : Hid (Pu.make (x :: r0) = Pu.makeOn (Pu.newPart x) r0) := by rw [Hid, Pu.make, hk]; rfl
    clear hk
    by_cases hcn : c = 1
    · have hr0 : r0.length ≤ 0 := by omega
      subst hcn
      go_wp2_with fail
      go_loopw [29] (fun i wr => ∃ (k : Nat) (P : Pu.PartD) (s t : Value), k ≤ r0.length ∧ i = .int .i64 k ∧ Hid (P.core = (Pu.newPart x).core) ∧ P.layers.length ≤ k ∧ Hid (Pu.makeOn (Pu.newPart x) r0 = Pu.makeOn P (r0.drop k)) ∧ Hid (Below w1.heap.size w1 wr) ∧ Hid (wr.heap[w1.heap.size]? = some (.cells #[.string P.core.kind, .bool P.core.on, .bool P.core.broken, s, .int .i64 P.core.count, t] 31 : Obj)) ∧ Hid (OwnL wr (w1.heap.size + 1) 74 2 cellEn s P.core.cells) ∧ Hid (OwnL wr (w1.heap.size + 1) 57 2 layerEn t P.layers) ∧ Hid (s.ownBlock = none ∨ s.ownBlock ≠ t.ownBlock)) (fun i _ => r0.length - (intOf i).toNat)
      case atStart => exact ⟨0, (Pu.newPart x), .slice none 0 0, .slice none 0 0, by omega, rfl, rfl, by simp [Pu.newPart], rfl, hide (below_alloc (Below.refl _ _) _), hide (heap_new rfl), hide (by rw [hnc.out]; exact OwnL.nil _ _ _ _ _), hide (OwnL.nil _ _ _ _ _), hide (.inl rfl)⟩
      case round =>
        obtain ⟨k, P, s, t, hkl, rfl, HPC, hPl, HMO, HB, HP, HO, HT, HD⟩ := hrel
        obtain ⟨_, _, _, _, _, _, _⟩ := six_cells HP.out
        have V1 := hide (below_row HB.out U1.out)
        have VR := hide (below_row HB.out UR.out)
        obtain ⟨a0, a1, a2, a3, a4, a5, af⟩ := six_cells V1.out
        obtain ⟨d0, d1, d2', d3, d4, df⟩ := five_cells VR.out
        have hpb : w1.heap.size < wr.heap.size := (Array.getElem?_eq_some_iff.1 HP.out).1
        obtain rfl : k = r0.length := by omega
        have rs : RdL wr 2 cellEn s P.core.cells := HO.out.rd (fun _ => rfl)
        have rt : RdL wr 2 layerEn t P.layers := HT.out.rd (fun _ => rfl)
        have HMO2 : Hid (Pu.makeOn (Pu.newPart x) r0 = (P, ⟨0, Pu.faceAt P P.layers.length, ⟨#[]⟩, 0, 0⟩)) := by rw [Hid, HMO.out, List.drop_length, Pu.makeOn]
        obtain ⟨As, ks, rfl⟩ := HO.out.shape
        obtain ⟨At, kt, rfl⟩ := HT.out.shape
        have hn1 : ¬ w.heap.size = w1.heap.size := by omega
        have hn2 : ¬ w.heap.size + 1 = w1.heap.size := by omega
        have hn3 : ¬ w1.heap.size = w.heap.size := by omega
        have hn4 : ¬ w1.heap.size = w.heap.size + 1 := by omega
        go_wp2_with fail
        go_region_held3 (fun w' => w'.cell? ⟨w1.heap.size, 0, none⟩ = some (.string P.core.kind) ∧ w'.cell? ⟨w1.heap.size, 1, none⟩ = some (.bool P.core.on) ∧ w'.cell? ⟨w1.heap.size, 2, none⟩ = some (.bool P.core.broken) ∧ w'.cell? ⟨w1.heap.size, 3, none⟩ = some (.slice As P.core.cells.length ks) ∧ w'.cell? ⟨w1.heap.size, 4, none⟩ = some (.int .i64 P.core.count) ∧ w'.cell? ⟨w1.heap.size, 5, none⟩ = some (.slice At P.layers.length kt)) (go_keep)
          (first
            | (go_at_call 33; refine (sFaceOf_c P _ _ _ (RdL.below rt (by first | exact Below.refl _ _ | exact (Below.refl _ _).drew) (Nat.le_refl _))).mono ?_; rintro e w6 ⟨rfl, b6⟩;
                   have b6' : Below wr.heap.size wr w6 := ⟨b6.os, b6.tape, b6.output, b6.size, b6.block⟩;
                   have KX : ∀ k : Nat, w6.cell? ⟨w1.heap.size, k, none⟩ = _ := fun k => World.cell?_of_block (b6'.block w1.heap.size hpb);
                   have z1 := hide (below_row b6' V1.out);
                   have zR := hide (below_row b6' VR.out);
                   obtain ⟨_, _, _, _, _, _, _⟩ := six_cells z1.out;
                   obtain ⟨_, _, _, _, _, _⟩ := five_cells zR.out))
        have O6 := hide (OwnL.below HO.out b6' (Nat.le_refl _))
        have P6 := hide (OwnL.below HT.out b6' (Nat.le_refl _))
        clear a0 a1 a2 a3 a4 a5 d0 d1 d2' d3 d4 af df
        obtain ⟨a0, a1, a2, a3, a4, a5, af⟩ := six_cells z1.out
        obtain ⟨d0, d1, d2', d3, d4, df⟩ := five_cells zR.out
        have B6 := below_then (below_then B1' HB.out) b6'
        have HB2 := (((((((((((B6.setCell (p := ⟨w.heap.size, 0, none⟩) (by simp <;> omega) (Value.string P.core.kind)).setCell (p := ⟨w.heap.size, 1, none⟩) (by simp <;> omega) (Value.bool P.core.on)).setCell (p := ⟨w.heap.size, 2, none⟩) (by simp <;> omega) (Value.bool P.core.broken)).setCell (p := ⟨w.heap.size, 3, none⟩) (by simp <;> omega) (Value.slice As P.core.cells.length ks)).setCell (p := ⟨w.heap.size, 4, none⟩) (by simp <;> omega) (Value.int .i64 P.core.count)).setCell (p := ⟨w.heap.size, 5, none⟩) (by simp <;> omega) (Value.slice At P.layers.length kt)).setCell (p := ⟨w.heap.size + 1, 0, none⟩) (by simp <;> omega) (Value.int .i64 0)).setCell (p := ⟨w.heap.size + 1, 1, none⟩) (by simp <;> omega) (Value.int .i64 (Pu.faceAt P P.layers.length))).setCell (p := ⟨w.heap.size + 1, 2, none⟩) (by simp <;> omega) (Value.string ⟨#[]⟩)).setCell (p := ⟨w.heap.size + 1, 3, none⟩) (by simp <;> omega) (Value.int .i64 0)).setCell (p := ⟨w.heap.size + 1, 4, none⟩) (by simp <;> omega) (Value.int .i64 0))
        go_wp2
        simp only [Pu.makeP, Pu.makeR, HM.out, HMO2.out]
        clear HM HMO2 HMO
        refine bodyPost_ret (v := .tuple #[.agg #[.string P.core.kind, .bool P.core.on, .bool P.core.broken, .slice As P.core.cells.length ks, .int .i64 P.core.count, .slice At P.layers.length kt], .agg #[.int .i64 0, .int .i64 (Pu.faceAt P P.layers.length), .string ⟨#[]⟩, .int .i64 0, .int .i64 0]]) (by simp [results, Try.results50, go_sem, a0, a1, a2, a3, a4, a5, d0, d1, d2', d3, d4]) rfl ⟨⟨_, _, rfl, ?_, ?_, HD.out⟩, HB2⟩
        · refine OwnL.mono (b' := w.heap.size) (base := w1.heap.size + 1) ?_ (by omega)
          have HO' := O6.out
          iterate 11 refine OwnL.set ?_ (by simp <;> omega) _
          exact HO'
        · refine OwnL.mono (b' := w.heap.size) (base := w1.heap.size + 1) ?_ (by omega)
          have HO' := P6.out
          iterate 11 refine OwnL.set ?_ (by simp <;> omega) _
          exact HO'
    · skip
      go_wp2_with fail
      go_loopw [29] (fun i wr => ∃ (k : Nat) (P : Pu.PartD) (s t : Value), k ≤ r0.length ∧ i = .int .i64 k ∧ Hid (P.core = (Pu.newPart x).core) ∧ P.layers.length ≤ k ∧ Hid (Pu.makeOn (Pu.newPart x) r0 = Pu.makeOn P (r0.drop k)) ∧ Hid (Below w1.heap.size w1 wr) ∧ Hid (wr.heap[w1.heap.size]? = some (.cells #[.string P.core.kind, .bool P.core.on, .bool P.core.broken, s, .int .i64 P.core.count, t] 31 : Obj)) ∧ Hid (OwnL wr (w1.heap.size + 1) 74 2 cellEn s P.core.cells) ∧ Hid (OwnL wr (w1.heap.size + 1) 57 2 layerEn t P.layers) ∧ Hid (s.ownBlock = none ∨ s.ownBlock ≠ t.ownBlock)) (fun i _ => r0.length - (intOf i).toNat)
      case atStart => exact ⟨0, (Pu.newPart x), .slice none 0 0, .slice none 0 0, by omega, rfl, rfl, by simp [Pu.newPart], rfl, hide (below_alloc (Below.refl _ _) _), hide (heap_new rfl), hide (by rw [hnc.out]; exact OwnL.nil _ _ _ _ _), hide (OwnL.nil _ _ _ _ _), hide (.inl rfl)⟩
      case round =>
        obtain ⟨k, P, s, t, hkl, rfl, HPC, hPl, HMO, HB, HP, HO, HT, HD⟩ := hrel
        obtain ⟨_, _, _, _, _, _, _⟩ := six_cells HP.out
        have V1 := hide (below_row HB.out U1.out)
        have VR := hide (below_row HB.out UR.out)
        obtain ⟨a0, a1, a2, a3, a4, a5, af⟩ := six_cells V1.out
        obtain ⟨d0, d1, d2', d3, d4, df⟩ := five_cells VR.out
        have hpb : w1.heap.size < wr.heap.size := (Array.getElem?_eq_some_iff.1 HP.out).1
        by_cases hlt : k < r0.length
        · obtain ⟨y, HY, hy⟩ := str_get HC (below_then B1' HB.out) (k := k + 1) (by simp; omega)
          have hy' : wr.cell? ⟨g, o + 1 + k, none⟩ = some (.string y) := by rw [show o + 1 + k = o + (k + 1) by omega]; exact hy
          have hyr : Hid (r0[k]? = some y) := hide (by have e := HY.out; simpa using e)
          have HDR := hide (dropL hyr)
          have hpc : P.core.cells = [] := by rw [HPC.out]; exact hnc.out
          have HPW : Hid (CoreD.wf P.core) := by rw [Hid, HPC.out]; exact HWF.out
          have rs : RdL wr 2 cellEn s P.core.cells := HO.out.rd (fun _ => rfl)
          have rt : RdL wr 2 layerEn t P.layers := HT.out.rd (fun _ => rfl)
          have RS := hide (show RdCells wr s P.core.cells from ⟨rs, by rw [hpc]; simp⟩)
          have hcl : P.core.cells.length ≤ 16777216 := by rw [hpc]; simp
          have hll : P.layers.length ≤ 16777216 := by omega
          clear hy hpc
          go_wp2_with fail
          refine (sWrap_c P y s t wr HPW.out RS.out rt hcl hll).mono ?_; rintro e w2 ⟨⟨s2, t2, rfl, o2, p2, n2⟩, b2⟩
          obtain ⟨A2, k2, rfl⟩ := o2.shape
          obtain ⟨B2, l2, rfl⟩ := p2.shape
          unfold partV replyV
          have HP2 := hide (below_row b2 HP.out)
          have V12 := hide (below_row b2 V1.out)
          have VR2 := hide (below_row b2 VR.out)
          obtain ⟨e0, e1, e2, e3, e4, e5, ef⟩ := six_cells HP2.out
          obtain ⟨a0, a1, a2, a3, a4, a5, af⟩ := six_cells V12.out
          obtain ⟨d0, d1, d2', d3, d4, df⟩ := five_cells VR2.out
          have hp2 : w1.heap.size < w2.heap.size := (Array.getElem?_eq_some_iff.1 HP2.out).1
          have hL12 : w.heap.size < w2.heap.size := (Array.getElem?_eq_some_iff.1 V12.out).1
          have hLR2 : w.heap.size + 1 < w2.heap.size := (Array.getElem?_eq_some_iff.1 VR2.out).1
          have HB2' := hide (below_then HB.out b2)
          have HO2 := hide o2
          have HT2 := hide p2
          have HN2 := hide n2
          clear o2 p2 n2 b2 rs rt
          by_cases hcode : (Pu.wrapR P y).code = 0
          · have HMO2 : Hid (Pu.makeOn (Pu.newPart x) r0 = Pu.makeOn (Pu.wrapP P y) (r0.drop (k + 1))) := by rw [Hid, HMO.out, HDR.out, Pu.makeOn, if_pos hcode]
            go_wp2_with fail
            go_roundw
            case rel =>
              refine ⟨k + 1, Pu.wrapP P y, .slice A2 (Pu.wrapP P y).core.cells.length k2, .slice B2 (Pu.wrapP P y).layers.length l2, by omega, by go_num, ?_, ?_, HMO2, ?_, ?_, ?_, ?_, HN2⟩
              · rw [Hid, Pu.wrapP_core]; exact HPC.out
              · have := Pu.wrapP_layers P y; omega
              · exact hide (below_alloc (below_alloc ((((((HB2'.out.setCell (Nat.le_refl _) _).setCell (Nat.le_refl _) _).setCell (Nat.le_refl _) _).setCell (Nat.le_refl _) _).setCell (Nat.le_refl _) _).setCell (Nat.le_refl _) _) _) _)
              · refine hide (heap_old (by simp; omega) (heap_old (by simp; omega) ?_))
                exact Joins.block_setCell (Joins.block_setCell (Joins.block_setCell (Joins.block_setCell (Joins.block_setCell (Joins.block_setCell HP2.out _) _) _) _) _) _
              · refine hide (OwnL.mono (b' := w1.heap.size + 1) (base := wr.heap.size) (OwnL.below (OwnL.below ?_ (below_alloc (Below.refl _ _) _) (Nat.le_refl _)) (below_alloc (Below.refl _ _) _) (Nat.le_refl _)) (by omega))
                have HO' := HO2.out
                iterate 6 refine OwnL.set ?_ (by simp <;> omega) _
                exact HO'
              · refine hide (OwnL.mono (b' := w1.heap.size + 1) (base := wr.heap.size) (OwnL.below (OwnL.below ?_ (below_alloc (Below.refl _ _) _) (Nat.le_refl _)) (below_alloc (Below.refl _ _) _) (Nat.le_refl _)) (by omega))
                have HO' := HT2.out
                iterate 6 refine OwnL.set ?_ (by simp <;> omega) _
                exact HO'
            case measure => simp [intOf]; omega
          · have HMO2 : Hid (Pu.makeOn (Pu.newPart x) r0 = (Pu.noPart, Pu.wrapR P y)) := by rw [Hid, HMO.out, HDR.out, Pu.makeOn, if_neg hcode]
            go_wp2_with fail
            obtain ⟨M, hM⟩ : ∃ M, Hid ((w2.alloc (.cells #[.string (Pu.wrapP P y).core.kind, .bool (Pu.wrapP P y).core.on, .bool (Pu.wrapP P y).core.broken, .slice A2 (Pu.wrapP P y).core.cells.length k2, .int .i64 (Pu.wrapP P y).core.count, .slice B2 (Pu.wrapP P y).layers.length l2] 31 : Obj)).alloc (.cells #[.int .i64 (Pu.wrapR P y).code, .int .i64 (Pu.wrapR P y).value, .string (Pu.wrapR P y).text, .int .i64 (Pu.wrapR P y).want, .int .i64 (Pu.wrapR P y).had] 33 : Obj) = M) := ⟨_, rfl⟩
            have HRR := hide (show M.heap[w2.heap.size + 1]? = some (.cells #[.int .i64 (Pu.wrapR P y).code, .int .i64 (Pu.wrapR P y).value, .string (Pu.wrapR P y).text, .int .i64 (Pu.wrapR P y).want, .int .i64 (Pu.wrapR P y).had] 33 : Obj) by rw [← hM.out]; exact heap_new (by simp))
            have V1M := hide (show M.heap[w.heap.size]? = some (.cells #[.string ⟨#[]⟩, .bool false, .bool false, .slice none 0 0, .int .i64 0, .slice none 0 0] 31 : Obj) by rw [← hM.out]; exact heap_old (by simp; omega) (heap_old (by omega) V12.out))
            have VRM := hide (show M.heap[w.heap.size + 1]? = some (.cells #[.int .i64 0, .int .i64 0, .string ⟨#[]⟩, .int .i64 0, .int .i64 0] 33 : Obj) by rw [← hM.out]; exact heap_old (by simp; omega) (heap_old (by omega) VR2.out))
            have HBM := hide (show Below w.heap.size w M by rw [← hM.out]; exact below_alloc (below_alloc (below_then B1' HB2'.out) _) _)
            rw [hM.out]
            obtain ⟨f0, f1, f2, f3, f4, ff⟩ := five_cells HRR.out
            clear a0 a1 a2 a3 a4 a5 d0 d1 d2' d3 d4 e0 e1 e2 e3 e4 e5 ef af df
            obtain ⟨a0, a1, a2, a3, a4, a5, af⟩ := six_cells V1M.out
            obtain ⟨d0, d1, d2', d3, d4, df⟩ := five_cells VRM.out
            have hq5 : ¬ w2.heap.size = w.heap.size := by omega
            have hq6 : ¬ w.heap.size = w2.heap.size := by omega
            have hq1 : ¬ w.heap.size = w2.heap.size + 1 := by omega
            have hq2 : ¬ w.heap.size + 1 = w2.heap.size + 1 := by omega
            have hq3 : ¬ w2.heap.size + 1 = w.heap.size := by omega
            have hq4 : ¬ w2.heap.size + 1 = w.heap.size + 1 := by omega
            go_region_held3 (fun w' => w'.cell? ⟨w2.heap.size + 1, 0, none⟩ = some (.int .i64 (Pu.wrapR P y).code) ∧ w'.cell? ⟨w2.heap.size + 1, 1, none⟩ = some (.int .i64 (Pu.wrapR P y).value) ∧ w'.cell? ⟨w2.heap.size + 1, 2, none⟩ = some (.string (Pu.wrapR P y).text) ∧ w'.cell? ⟨w2.heap.size + 1, 3, none⟩ = some (.int .i64 (Pu.wrapR P y).want) ∧ w'.cell? ⟨w2.heap.size + 1, 4, none⟩ = some (.int .i64 (Pu.wrapR P y).had)) (go_keep) (fail)
            have HB2 := Below.drew ((((((((((((HBM.out.setCell (p := ⟨w.heap.size, 0, none⟩) (by simp <;> omega) (Value.string ⟨#[]⟩)).setCell (p := ⟨w.heap.size, 1, none⟩) (by simp <;> omega) (Value.bool false)).setCell (p := ⟨w.heap.size, 2, none⟩) (by simp <;> omega) (Value.bool false)).setCell (p := ⟨w.heap.size, 3, none⟩) (by simp <;> omega) (Value.slice none 0 0)).setCell (p := ⟨w.heap.size, 4, none⟩) (by simp <;> omega) (Value.int .i64 0)).setCell (p := ⟨w.heap.size, 5, none⟩) (by simp <;> omega) (Value.slice none 0 0)).setCell (p := ⟨w.heap.size + 1, 0, none⟩) (by simp <;> omega) (Value.int .i64 (Pu.wrapR P y).code)).setCell (p := ⟨w.heap.size + 1, 1, none⟩) (by simp <;> omega) (Value.int .i64 (Pu.wrapR P y).value)).setCell (p := ⟨w.heap.size + 1, 2, none⟩) (by simp <;> omega) (Value.string (Pu.wrapR P y).text)).setCell (p := ⟨w.heap.size + 1, 3, none⟩) (by simp <;> omega) (Value.int .i64 (Pu.wrapR P y).want)).setCell (p := ⟨w.heap.size + 1, 4, none⟩) (by simp <;> omega) (Value.int .i64 (Pu.wrapR P y).had)))
            go_wp2
            simp only [Pu.makeP, Pu.makeR, HM.out, HMO2.out]
            clear HM HMO2 HMO
            exact bodyPost_ret (v := .tuple #[.agg #[.string ⟨#[]⟩, .bool false, .bool false, .slice none 0 0, .int .i64 0, .slice none 0 0], .agg #[.int .i64 (Pu.wrapR P y).code, .int .i64 (Pu.wrapR P y).value, .string (Pu.wrapR P y).text, .int .i64 (Pu.wrapR P y).want, .int .i64 (Pu.wrapR P y).had]]) (by simp [results, Try.results50, go_sem, a0, a1, a2, a3, a4, a5, d0, d1, d2', d3, d4]) rfl ⟨⟨_, _, rfl, OwnL.nil _ _ _ _ _, OwnL.nil _ _ _ _ _, .inl rfl⟩, HB2⟩
        · obtain rfl : k = r0.length := by omega
          have rs : RdL wr 2 cellEn s P.core.cells := HO.out.rd (fun _ => rfl)
          have rt : RdL wr 2 layerEn t P.layers := HT.out.rd (fun _ => rfl)
          have HMO2 : Hid (Pu.makeOn (Pu.newPart x) r0 = (P, ⟨0, Pu.faceAt P P.layers.length, ⟨#[]⟩, 0, 0⟩)) := by rw [Hid, HMO.out, List.drop_length, Pu.makeOn]
          obtain ⟨As, ks, rfl⟩ := HO.out.shape
          obtain ⟨At, kt, rfl⟩ := HT.out.shape
          have hn1 : ¬ w.heap.size = w1.heap.size := by omega
          have hn2 : ¬ w.heap.size + 1 = w1.heap.size := by omega
          have hn3 : ¬ w1.heap.size = w.heap.size := by omega
          have hn4 : ¬ w1.heap.size = w.heap.size + 1 := by omega
          go_wp2_with fail
          go_region_held3 (fun w' => w'.cell? ⟨w1.heap.size, 0, none⟩ = some (.string P.core.kind) ∧ w'.cell? ⟨w1.heap.size, 1, none⟩ = some (.bool P.core.on) ∧ w'.cell? ⟨w1.heap.size, 2, none⟩ = some (.bool P.core.broken) ∧ w'.cell? ⟨w1.heap.size, 3, none⟩ = some (.slice As P.core.cells.length ks) ∧ w'.cell? ⟨w1.heap.size, 4, none⟩ = some (.int .i64 P.core.count) ∧ w'.cell? ⟨w1.heap.size, 5, none⟩ = some (.slice At P.layers.length kt)) (go_keep)
            (first
              | (go_at_call 33; refine (sFaceOf_c P _ _ _ (RdL.below rt (by first | exact Below.refl _ _ | exact (Below.refl _ _).drew) (Nat.le_refl _))).mono ?_; rintro e w6 ⟨rfl, b6⟩;
                     have b6' : Below wr.heap.size wr w6 := ⟨b6.os, b6.tape, b6.output, b6.size, b6.block⟩;
                     have KX : ∀ k : Nat, w6.cell? ⟨w1.heap.size, k, none⟩ = _ := fun k => World.cell?_of_block (b6'.block w1.heap.size hpb);
                     have z1 := hide (below_row b6' V1.out);
                     have zR := hide (below_row b6' VR.out);
                     obtain ⟨_, _, _, _, _, _, _⟩ := six_cells z1.out;
                     obtain ⟨_, _, _, _, _, _⟩ := five_cells zR.out))
          have O6 := hide (OwnL.below HO.out b6' (Nat.le_refl _))
          have P6 := hide (OwnL.below HT.out b6' (Nat.le_refl _))
          clear a0 a1 a2 a3 a4 a5 d0 d1 d2' d3 d4 af df
          obtain ⟨a0, a1, a2, a3, a4, a5, af⟩ := six_cells z1.out
          obtain ⟨d0, d1, d2', d3, d4, df⟩ := five_cells zR.out
          have B6 := below_then (below_then B1' HB.out) b6'
          have HB2 := (((((((((((B6.setCell (p := ⟨w.heap.size, 0, none⟩) (by simp <;> omega) (Value.string P.core.kind)).setCell (p := ⟨w.heap.size, 1, none⟩) (by simp <;> omega) (Value.bool P.core.on)).setCell (p := ⟨w.heap.size, 2, none⟩) (by simp <;> omega) (Value.bool P.core.broken)).setCell (p := ⟨w.heap.size, 3, none⟩) (by simp <;> omega) (Value.slice As P.core.cells.length ks)).setCell (p := ⟨w.heap.size, 4, none⟩) (by simp <;> omega) (Value.int .i64 P.core.count)).setCell (p := ⟨w.heap.size, 5, none⟩) (by simp <;> omega) (Value.slice At P.layers.length kt)).setCell (p := ⟨w.heap.size + 1, 0, none⟩) (by simp <;> omega) (Value.int .i64 0)).setCell (p := ⟨w.heap.size + 1, 1, none⟩) (by simp <;> omega) (Value.int .i64 (Pu.faceAt P P.layers.length))).setCell (p := ⟨w.heap.size + 1, 2, none⟩) (by simp <;> omega) (Value.string ⟨#[]⟩)).setCell (p := ⟨w.heap.size + 1, 3, none⟩) (by simp <;> omega) (Value.int .i64 0)).setCell (p := ⟨w.heap.size + 1, 4, none⟩) (by simp <;> omega) (Value.int .i64 0))
          go_wp2
          simp only [Pu.makeP, Pu.makeR, HM.out, HMO2.out]
          clear HM HMO2 HMO
          refine bodyPost_ret (v := .tuple #[.agg #[.string P.core.kind, .bool P.core.on, .bool P.core.broken, .slice As P.core.cells.length ks, .int .i64 P.core.count, .slice At P.layers.length kt], .agg #[.int .i64 0, .int .i64 (Pu.faceAt P P.layers.length), .string ⟨#[]⟩, .int .i64 0, .int .i64 0]]) (by simp [results, Try.results50, go_sem, a0, a1, a2, a3, a4, a5, d0, d1, d2', d3, d4]) rfl ⟨⟨_, _, rfl, ?_, ?_, HD.out⟩, HB2⟩
          · refine OwnL.mono (b' := w.heap.size) (base := w1.heap.size + 1) ?_ (by omega)
            have HO' := O6.out
            iterate 11 refine OwnL.set ?_ (by simp <;> omega) _
            exact HO'
          · refine OwnL.mono (b' := w.heap.size) (base := w1.heap.size + 1) ?_ (by omega)
            have HO' := P6.out
            iterate 11 refine OwnL.set ?_ (by simp <;> omega) _
            exact HO'
end Go.Proofs.Ytnabpefjcgehiaa
