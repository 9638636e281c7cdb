/- Contracts: copies of cores and parts. -/
import Derived.Test.YtplcdnahiimenaaPart
import Derived.Test.YtplcdnahiimenaaCopy
import Derived.Test.YtplcdnahiimenaaRecipe
import Derived.Test.YtplcdnahiimenaaMem3
import Derived.Deep.RegionHeld3
namespace Go.Proofs.Ytplcdnahiimenaa
open Go.ChangeShapes Go.WideShapes Go.ChangeAt Go.RowKit
set_option maxRecDepth 100000
set_option maxHeartbeats 1000000 in
theorem iCopyCore_c (p : Pu.CoreD) (s : Value) (w : World) (hs : RdL w 2 cellEn s p.cells) (hl : p.cells.length ≤ 16777216) :
    Calls Try.prog 81 #[coreV p s] w fun e w' => ∃ s', e = .returned (coreV p s') ∧ OwnL w' w.heap.size 96 2 cellEn s' p.cells ∧ Below w.heap.size w w' := by
  obtain ⟨i0, hi, hz0, hz1, hz2⟩ := info_parts info_cell
  have HB : Below w.heap.size w ((w.alloc (.cells #[.string p.kind, .bool p.on, .bool p.broken, s, .int .i64 p.count] 34 : Obj)).alloc (.cells #[.string ⟨#[]⟩, .bool false, .bool false, .slice none 0 0, .int .i64 0] 34 : Obj)) := below_alloc (below_alloc (Below.refl _ _) _) _
  have HH := hide HB
  have hr := RdL.below hs HB (Nat.le_refl _)
  have hown : OwnL ((w.alloc (.cells #[.string p.kind, .bool p.on, .bool p.broken, s, .int .i64 p.count] 34 : Obj)).alloc (.cells #[.string ⟨#[]⟩, .bool false, .bool false, .slice none 0 0, .int .i64 0] 34 : Obj)) (w.heap.size + 1 + 1) 96 2 cellEn (.slice none 0 0) [] := OwnL.nil _ _ _ _ _
  have hbz : w.heap.size + 1 + 1 ≤ (((w.alloc (.cells #[.string p.kind, .bool p.on, .bool p.broken, s, .int .i64 p.count] 34 : Obj)).alloc (.cells #[.string ⟨#[]⟩, .bool false, .bool false, .slice none 0 0, .int .i64 0] 34 : Obj))).heap.size := by simp
  have y0 : (((w.alloc (.cells #[.string p.kind, .bool p.on, .bool p.broken, s, .int .i64 p.count] 34 : Obj)).alloc (.cells #[.string ⟨#[]⟩, .bool false, .bool false, .slice none 0 0, .int .i64 0] 34 : Obj))).heap[w.heap.size]? = some (.cells #[.string p.kind, .bool p.on, .bool p.broken, s, .int .i64 p.count] 34 : Obj) := heap_old (by simp) (heap_new rfl)
  have y1 : (((w.alloc (.cells #[.string p.kind, .bool p.on, .bool p.broken, s, .int .i64 p.count] 34 : Obj)).alloc (.cells #[.string ⟨#[]⟩, .bool false, .bool false, .slice none 0 0, .int .i64 0] 34 : Obj))).heap[w.heap.size + 1]? = some (.cells #[.string ⟨#[]⟩, .bool false, .bool false, .slice none 0 0, .int .i64 0] 34 : Obj) := heap_new (by simp)
  have Y0 := hide y0
  have Y1 := hide y1
  clear hs y0 y1
  unfold coreV
  go_enter Try.func81, Try.ntmps81
  go_wp2_with (at_builtin; go_must (refine copy_law rfl _ _ 32 (by exact rfl) (w.heap.size + 1 + 1) 96 i0 _ 2 24 Try.underlying32 hi hz0 hz1 hz2 rfl (by decide) cellEn (fun _ => rfl) one_cell (.slice none 0 0) s p.cells (by exact rfl) hown (by exact rfl) hr hbz (by omega) (by decide) ?_); intro v1 w1 hown1 hg1;
                    have Z0 := (hg1.block w.heap.size (by simp <;> omega) (by simp [Value.ownBlock] <;> omega)).trans Y0.out;
                    have Z1 := (hg1.block (w.heap.size + 1) (by simp <;> omega) (by simp [Value.ownBlock] <;> omega)).trans Y1.out;
                    have B1 : Below w.heap.size w w1 := HH.out.grown hg1 HH.out.size (fun k hk => by have h := (hown.lt hk).1; omega);
                    obtain ⟨A', c', rfl⟩ := hown1.shape;
                    obtain ⟨a0, a1, a2, a3, a4, af⟩ := five_cells Z0;
                    obtain ⟨b0, b1, b2, b3, b4, bf⟩ := five_cells Z1;
                    have HO := hide hown1;
                    clear hown1 hg1 Z0 Z1)
  have HB2 := (((((B1.setCell (p := ⟨w.heap.size, 3, none⟩) (by simp) (Value.slice A' p.cells.length c')).setCell (p := ⟨w.heap.size + 1, 0, none⟩) (by simp) (Value.string p.kind)).setCell (p := ⟨w.heap.size + 1, 1, none⟩) (by simp) (Value.bool p.on)).setCell (p := ⟨w.heap.size + 1, 2, none⟩) (by simp) (Value.bool p.broken)).setCell (p := ⟨w.heap.size + 1, 3, none⟩) (by simp) (Value.slice A' p.cells.length c')).setCell (p := ⟨w.heap.size + 1, 4, none⟩) (by simp) (Value.int .i64 p.count)
  refine bodyPost_ret (v := .agg #[.string p.kind, .bool p.on, .bool p.broken, .slice A' p.cells.length c', .int .i64 p.count]) (by simp [results, Try.results81, go_sem, b0, b1, b2, b3, b4]) rfl ⟨_, rfl, ?_, HB2⟩
  refine OwnL.mono (b' := w.heap.size) (base := w.heap.size + 1 + 1) ?_ (by omega)
  have HO' := HO.out
  iterate 6 refine OwnL.set ?_ (by simp <;> omega) _
  exact HO'
set_option maxHeartbeats 1000000 in
theorem sCopyCore_c (p : Pu.CoreD) (s : Value) (w : World) (hs : RdL w 2 cellEn s p.cells) (hl : p.cells.length ≤ 16777216) :
    Calls Try.prog 84 #[coreV p s] w fun e w' => ∃ s', e = .returned (coreV p s') ∧ OwnL w' w.heap.size 96 2 cellEn s' p.cells ∧ Below w.heap.size w w' := by
  obtain ⟨i0, hi, hz0, hz1, hz2⟩ := info_parts info_cell
  have HB : Below w.heap.size w (((w.alloc (.cells #[.string p.kind, .bool p.on, .bool p.broken, s, .int .i64 p.count] 34 : Obj)).alloc (.cells #[.string ⟨#[]⟩, .bool false, .bool false, .slice none 0 0, .int .i64 0] 34 : Obj)).alloc (.cells #[] 96 : Obj)) := below_alloc (below_alloc (below_alloc (Below.refl _ _) _) _) _
  have HH := hide HB
  have hr := RdL.below hs HB (Nat.le_refl _)
  have hown : OwnL (((w.alloc (.cells #[.string p.kind, .bool p.on, .bool p.broken, s, .int .i64 p.count] 34 : Obj)).alloc (.cells #[.string ⟨#[]⟩, .bool false, .bool false, .slice none 0 0, .int .i64 0] 34 : Obj)).alloc (.cells #[] 96 : Obj)) (w.heap.size + 1 + 1) 96 2 cellEn (.slice (some ⟨w.heap.size + 1 + 1, 0, none⟩) 0 0) [] := by have h := own_made (w := ((w.alloc (.cells #[.string p.kind, .bool p.on, .bool p.broken, s, .int .i64 p.count] 34 : Obj)).alloc (.cells #[.string ⟨#[]⟩, .bool false, .bool false, .slice none 0 0, .int .i64 0] 34 : Obj))) (e := 96) (en := cellEn) (size := 2) [] (n := 0) rfl (fun _ => rfl) (Nat.zero_le _); rw [show (((w.alloc (.cells #[.string p.kind, .bool p.on, .bool p.broken, s, .int .i64 p.count] 34 : Obj)).alloc (.cells #[.string ⟨#[]⟩, .bool false, .bool false, .slice none 0 0, .int .i64 0] 34 : Obj))).heap.size = w.heap.size + 1 + 1 by simp] at h; exact h
  have hbz : w.heap.size + 1 + 1 ≤ ((((w.alloc (.cells #[.string p.kind, .bool p.on, .bool p.broken, s, .int .i64 p.count] 34 : Obj)).alloc (.cells #[.string ⟨#[]⟩, .bool false, .bool false, .slice none 0 0, .int .i64 0] 34 : Obj)).alloc (.cells #[] 96 : Obj))).heap.size := by simp
  have y0 : ((((w.alloc (.cells #[.string p.kind, .bool p.on, .bool p.broken, s, .int .i64 p.count] 34 : Obj)).alloc (.cells #[.string ⟨#[]⟩, .bool false, .bool false, .slice none 0 0, .int .i64 0] 34 : Obj)).alloc (.cells #[] 96 : Obj))).heap[w.heap.size]? = some (.cells #[.string p.kind, .bool p.on, .bool p.broken, s, .int .i64 p.count] 34 : Obj) := heap_old (by simp <;> omega) (heap_old (by simp) (heap_new rfl))
  have y1 : ((((w.alloc (.cells #[.string p.kind, .bool p.on, .bool p.broken, s, .int .i64 p.count] 34 : Obj)).alloc (.cells #[.string ⟨#[]⟩, .bool false, .bool false, .slice none 0 0, .int .i64 0] 34 : Obj)).alloc (.cells #[] 96 : Obj))).heap[w.heap.size + 1]? = some (.cells #[.string ⟨#[]⟩, .bool false, .bool false, .slice none 0 0, .int .i64 0] 34 : Obj) := heap_old (by simp) (heap_new (by simp))
  have Y0 := hide y0
  have Y1 := hide y1
  clear hs y0 y1
  unfold coreV
  go_enter Try.func84, Try.ntmps84
  go_wp2_with (at_builtin; go_must (refine copy_law rfl _ _ 32 (by exact rfl) (w.heap.size + 1 + 1) 96 i0 _ 2 24 Try.underlying32 hi hz0 hz1 hz2 rfl (by decide) cellEn (fun _ => rfl) one_cell (.slice (some ⟨w.heap.size + 1 + 1, 0, none⟩) 0 0) s p.cells (by exact rfl) hown (by exact rfl) hr hbz (by omega) (by decide) ?_); intro v1 w1 hown1 hg1;
                    have Z0 := (hg1.block w.heap.size (by simp <;> omega) (by simp [Value.ownBlock] <;> omega)).trans Y0.out;
                    have Z1 := (hg1.block (w.heap.size + 1) (by simp <;> omega) (by simp [Value.ownBlock] <;> omega)).trans Y1.out;
                    have B1 : Below w.heap.size w w1 := HH.out.grown hg1 HH.out.size (fun k hk => by have h := (hown.lt hk).1; omega);
                    obtain ⟨A', c', rfl⟩ := hown1.shape;
                    obtain ⟨a0, a1, a2, a3, a4, af⟩ := five_cells Z0;
                    obtain ⟨b0, b1, b2, b3, b4, bf⟩ := five_cells Z1;
                    have HO := hide hown1;
                    clear hown1 hg1 Z0 Z1)
  have HB2 := (((((B1.setCell (p := ⟨w.heap.size, 3, none⟩) (by simp) (Value.slice A' p.cells.length c')).setCell (p := ⟨w.heap.size + 1, 0, none⟩) (by simp) (Value.string p.kind)).setCell (p := ⟨w.heap.size + 1, 1, none⟩) (by simp) (Value.bool p.on)).setCell (p := ⟨w.heap.size + 1, 2, none⟩) (by simp) (Value.bool p.broken)).setCell (p := ⟨w.heap.size + 1, 3, none⟩) (by simp) (Value.slice A' p.cells.length c')).setCell (p := ⟨w.heap.size + 1, 4, none⟩) (by simp) (Value.int .i64 p.count)
  refine bodyPost_ret (v := .agg #[.string p.kind, .bool p.on, .bool p.broken, .slice A' p.cells.length c', .int .i64 p.count]) (by simp [results, Try.results84, go_sem, b0, b1, b2, b3, b4]) rfl ⟨_, rfl, ?_, HB2⟩
  refine OwnL.mono (b' := w.heap.size) (base := w.heap.size + 1 + 1) ?_ (by omega)
  have HO' := HO.out
  iterate 6 refine OwnL.set ?_ (by simp <;> omega) _
  exact HO'
theorem below_row {w w' : World} {g : Nat} {o : Obj} (hb : Below w.heap.size w w') (h : w.heap[g]? = some o) : w'.heap[g]? = some o :=
  (hb.block g (Array.getElem?_eq_some_iff.1 h).1).trans h
theorem grown_row {w w' : World} {g : Nat} {o : Obj} {row : Option Nat} (hb : w.grownBy w' row) (hne : some g ≠ row) (h : w.heap[g]? = some o) : w'.heap[g]? = some o :=
  (hb.block g (Array.getElem?_eq_some_iff.1 h).1 hne).trans h
set_option maxHeartbeats 4000000 in
theorem iCopyPart_c (p : Pu.PartD) (s t : Value) (w : World) (hs : RdL w 2 cellEn s p.core.cells) (ht : RdL w 2 layerEn t p.layers) (hl : p.core.cells.length ≤ 16777216) (hl' : p.layers.length ≤ 16777216) :
    Calls Try.prog 53 #[partV p s t] w fun e w' => ∃ s' t', e = .returned (partV p s' t') ∧ OwnL w' w.heap.size 96 2 cellEn s' p.core.cells ∧ OwnL w' w.heap.size 72 2 layerEn t' p.layers ∧ (s'.ownBlock = none ∨ s'.ownBlock ≠ t'.ownBlock) ∧ Below w.heap.size w w' := by
  obtain ⟨i0, hi, hz0, hz1, hz2⟩ := info_parts info_layer
  unfold partV
  go_enter Try.func53, Try.ntmps53
  obtain ⟨w0, hw0⟩ : ∃ w0, Hid ((w.alloc (.cells #[.string p.core.kind, .bool p.core.on, .bool p.core.broken, s, .int .i64 p.core.count, t] 37 : Obj)).alloc (.cells #[.string ⟨#[]⟩, .bool false, .bool false, .slice none 0 0, .int .i64 0, .slice none 0 0] 37 : Obj) = w0) := ⟨_, rfl⟩
  have b0 : Below w.heap.size w w0 := by rw [← hw0.out]; exact below_alloc (below_alloc (Below.refl _ _) _) _
  have Y0 := hide (show w0.heap[w.heap.size]? = some (.cells #[.string p.core.kind, .bool p.core.on, .bool p.core.broken, s, .int .i64 p.core.count, t] 37 : Obj) by rw [← hw0.out]; exact heap_old (by simp) (heap_new rfl))
  have Y1 := hide (show w0.heap[w.heap.size + 1]? = some (.cells #[.string ⟨#[]⟩, .bool false, .bool false, .slice none 0 0, .int .i64 0, .slice none 0 0] 37 : Obj) by rw [← hw0.out]; exact heap_new (by simp))
  have hs0 : Hid (w0.heap.size = w.heap.size + 1 + 1) := by rw [← hw0.out, Hid]; simp
  go_wp2_with fail
  rw [hw0.out]
  obtain ⟨_, _, _, _, _, _, _⟩ := six_cells Y0.out
  have K0 : Below w.heap.size w w0 := b0
  have KD : ∀ w' : World, Below w.heap.size w w' → Below w.heap.size w w'.drew := fun _ h => h.drew
  have KS : ∀ (w' : World) (k : Nat) (v : Value), Below w.heap.size w w' → Below w.heap.size w (w'.setCell ⟨w.heap.size + 1, k, none⟩ v) := fun _ _ _ h => h.setCell (by simp) _
  go_region_held3 (fun w' => w'.cell? ⟨w.heap.size, 0, none⟩ = some (.string p.core.kind) ∧ w'.cell? ⟨w.heap.size, 1, none⟩ = some (.bool p.core.on) ∧ w'.cell? ⟨w.heap.size, 2, none⟩ = some (.bool p.core.broken) ∧ w'.cell? ⟨w.heap.size, 3, none⟩ = some s ∧ w'.cell? ⟨w.heap.size, 4, none⟩ = some (.int .i64 p.core.count) ∧ w'.cell? ⟨w.heap.size, 5, none⟩ = some t) (go_keep)
    (first
      | (go_at_call 81; refine (iCopyCore_c p.core s _ (RdL.below hs (by first | exact b0 | exact b0.drew | exact KW2 | exact KW2.drew) (Nat.le_refl _)) hl).mono ?_; rintro e WX ⟨vX, rfl, oX, bX⟩; obtain ⟨AX, kX, rfl⟩ := oX.shape; unfold coreV;
             have KW : Below w.heap.size w WX := below_then (by first | exact b0 | exact b0.drew | exact KW2 | exact KW2.drew) bX;
             have KX : ∀ k : Nat, WX.cell? ⟨w.heap.size, k, none⟩ = _ := fun k => World.cell?_of_block (bX.block w.heap.size (by first | exact (Array.getElem?_eq_some_iff.1 Y0.out).1 | exact (Array.getElem?_eq_some_iff.1 YY0.out).1));
             have YX0 := hide (below_row bX (by first | exact Y0.out | exact YY0.out));
             have YX1 := hide (below_row bX (by first | exact Y1.out | exact YY1.out));
             obtain ⟨_, _, _, _, _, _, _⟩ := six_cells YX1.out)
      | (refine step_copy rfl _ _ 35 (by exact rfl) _ 72 i0 _ 2 24 Try.underlying35 hi hz0 hz1 hz2 rfl (by decide) layerEn (fun _ => rfl) one_layer (.slice none 0 0) t p.layers (by exact rfl) (OwnL.nil _ (World.heap (World.drew _)).size _ _ _) (by exact rfl) (RdL.below ht (by first | exact b0 | exact b0.drew | exact KW | exact KW.drew) (Nat.le_refl _)) (Nat.le_refl _) (by omega) (by decide) ?_; intro vY WY oY gY _; obtain ⟨AY, kY, rfl⟩ := oY.shape;
             have KW2 : Below w.heap.size w WY := Below.grown (by first | exact b0 | exact b0.drew | exact KW | exact KW.drew) gY (Below.size (by first | exact b0 | exact b0.drew | exact KW | exact KW.drew)) (fun k hk => by cases hk);
             have KY : ∀ k : Nat, WY.cell? ⟨w.heap.size, k, none⟩ = _ := fun k => World.cell?_of_block (gY.block w.heap.size (by first | exact (Array.getElem?_eq_some_iff.1 Y0.out).1 | exact (Array.getElem?_eq_some_iff.1 YX0.out).1) (by simp [Value.ownBlock]));
             have YY0 := hide (grown_row gY (by simp [Value.ownBlock]) (by first | exact Y0.out | exact YX0.out));
             have YY1 := hide (grown_row gY (by simp [Value.ownBlock]) (by first | exact Y1.out | exact YX1.out));
             obtain ⟨_, _, _, _, _, _, _⟩ := six_cells YY1.out))
  have h1 : w0.heap.size ≤ WX.heap.size := bX.size
  have h2 : WX.heap.size ≤ WY.heap.size := gY.size
  have h0 := hs0.out
  have gY2 : WX.grownBy WY none := ⟨gY.os, gY.tape, gY.output, gY.size, gY.block⟩
  have oX2 : OwnL WY w0.heap.size 96 2 cellEn (.slice AX p.core.cells.length kX) p.core.cells := OwnL.kept oX gY2 (by rcases (Value.slice AX p.core.cells.length kX).ownBlock with _ | g <;> simp)
  have oY2 : OwnL WY WX.heap.size 72 2 layerEn (.slice AY p.layers.length kY) p.layers := oY
  have hd := OwnL.apart oX oY2 (Nat.le_refl _)
  have OX := hide oX2
  have OY := hide oY2
  have HD := hide hd
  obtain ⟨c0, c1, c2, c3, c4, c5, cf⟩ := six_cells YY1.out
  have HB2 := (((((KW2.setCell (p := ⟨w.heap.size + 1, 0, none⟩) (by simp) (Value.string p.core.kind)).setCell (p := ⟨w.heap.size + 1, 1, none⟩) (by simp) (Value.bool p.core.on)).setCell (p := ⟨w.heap.size + 1, 2, none⟩) (by simp) (Value.bool p.core.broken)).setCell (p := ⟨w.heap.size + 1, 3, none⟩) (by simp) (Value.slice AX p.core.cells.length kX)).setCell (p := ⟨w.heap.size + 1, 4, none⟩) (by simp) (Value.int .i64 p.core.count)).setCell (p := ⟨w.heap.size + 1, 5, none⟩) (by simp) (Value.slice AY p.layers.length kY)
  clear oX oY oX2 oY2 hd gY gY2 bX
  go_wp2
  refine bodyPost_ret (v := .agg #[.string p.core.kind, .bool p.core.on, .bool p.core.broken, .slice AX p.core.cells.length kX, .int .i64 p.core.count, .slice AY p.layers.length kY]) (by simp [results, Try.results53, go_sem, c0, c1, c2, c3, c4, c5]) rfl ⟨_, _, rfl, ?_, ?_, HD.out, HB2⟩
  · refine OwnL.mono (b' := w.heap.size) (base := w0.heap.size) ?_ (by omega)
    have HO' := OX.out
    iterate 6 refine OwnL.set ?_ (by simp <;> omega) _
    exact HO'
  · refine OwnL.mono (b' := w.heap.size) (base := WX.heap.size) ?_ (by omega)
    have HO' := OY.out
    iterate 6 refine OwnL.set ?_ (by simp <;> omega) _
    exact HO'
theorem own_nil {α : Type} (w : World) (e : TypeId) (size : Nat) (en : α → List Value) : OwnL (w.alloc (.cells #[] e)) w.heap.size e size en (.slice (some ⟨w.heap.size, 0, none⟩) 0 0) [] :=
  World.ownsRow_made w #[] 0 (Nat.le_refl _) (Nat.zero_le _) (by simp)
set_option maxHeartbeats 4000000 in
theorem sCopyPart_c (p : Pu.PartD) (s t : Value) (w : World) (hs : RdL w 2 cellEn s p.core.cells) (ht : RdL w 2 layerEn t p.layers) (hl : p.core.cells.length ≤ 16777216) (hl' : p.layers.length ≤ 16777216) :
    Calls Try.prog 56 #[partV p s t] w fun e w' => ∃ s' t', e = .returned (partV p s' t') ∧ OwnL w' w.heap.size 96 2 cellEn s' p.core.cells ∧ OwnL w' w.heap.size 72 2 layerEn t' p.layers ∧ (s'.ownBlock = none ∨ s'.ownBlock ≠ t'.ownBlock) ∧ Below w.heap.size w w' := by
  obtain ⟨i0, hi, hz0, hz1, hz2⟩ := info_parts info_layer
  unfold partV
  go_enter Try.func56, Try.ntmps56
  obtain ⟨w0, hw0⟩ : ∃ w0, Hid ((w.alloc (.cells #[.string p.core.kind, .bool p.core.on, .bool p.core.broken, s, .int .i64 p.core.count, t] 37 : Obj)).alloc (.cells #[.string ⟨#[]⟩, .bool false, .bool false, .slice none 0 0, .int .i64 0, .slice none 0 0] 37 : Obj) = w0) := ⟨_, rfl⟩
  have b0 : Below w.heap.size w w0 := by rw [← hw0.out]; exact below_alloc (below_alloc (Below.refl _ _) _) _
  have Y0 := hide (show w0.heap[w.heap.size]? = some (.cells #[.string p.core.kind, .bool p.core.on, .bool p.core.broken, s, .int .i64 p.core.count, t] 37 : Obj) by rw [← hw0.out]; exact heap_old (by simp) (heap_new rfl))
  have Y1 := hide (show w0.heap[w.heap.size + 1]? = some (.cells #[.string ⟨#[]⟩, .bool false, .bool false, .slice none 0 0, .int .i64 0, .slice none 0 0] 37 : Obj) by rw [← hw0.out]; exact heap_new (by simp))
  have hs0 : Hid (w0.heap.size = w.heap.size + 1 + 1) := by rw [← hw0.out, Hid]; simp
  go_wp2_with fail
  rw [hw0.out]
  obtain ⟨_, _, _, _, _, _, _⟩ := six_cells Y0.out
  have K0 : Below w.heap.size w w0 := b0
  have KD : ∀ w' : World, Below w.heap.size w w' → Below w.heap.size w w'.drew := fun _ h => h.drew
  have hL0 : w.heap.size < w0.heap.size := by have := hs0.out; omega
  have hL1 : w.heap.size + 1 < w0.heap.size := by have := hs0.out; omega
  have KS : ∀ (w' : World) (k : Nat) (v : Value), Below w.heap.size w w' → Below w.heap.size w (w'.setCell ⟨w.heap.size + 1, k, none⟩ v) := fun _ _ _ h => h.setCell (by simp) _
  go_region_held3 (fun w' => w'.cell? ⟨w.heap.size, 0, none⟩ = some (.string p.core.kind) ∧ w'.cell? ⟨w.heap.size, 1, none⟩ = some (.bool p.core.on) ∧ w'.cell? ⟨w.heap.size, 2, none⟩ = some (.bool p.core.broken) ∧ w'.cell? ⟨w.heap.size, 3, none⟩ = some s ∧ w'.cell? ⟨w.heap.size, 4, none⟩ = some (.int .i64 p.core.count) ∧ w'.cell? ⟨w.heap.size, 5, none⟩ = some t) (go_keep)
    (first
      | (refine step_copy rfl _ _ 35 (by exact rfl) _ 72 i0 _ 2 24 Try.underlying35 hi hz0 hz1 hz2 rfl (by decide) layerEn (fun _ => rfl) one_layer (.slice (some ⟨WX.heap.size, 0, none⟩) 0 0) t p.layers (by exact rfl) (own_nil WX 72 2 layerEn) (by exact rfl) (RdL.below ht (below_alloc KW _) (Nat.le_refl _)) (by simp) (by omega) (by decide) ?_; intro vY WY oY gY _; obtain ⟨AY, kY, rfl⟩ := oY.shape;
             have hne0 : some w.heap.size ≠ some WX.heap.size := (by simp; omega);
             have hne1 : some (w.heap.size + 1) ≠ some WX.heap.size := (by simp; omega);
             have KW2 : Below w.heap.size w WY := Below.grown (below_alloc KW _) gY (Below.size (below_alloc KW _)) (fun k hk => by have e : WX.heap.size = k := Option.some.inj hk; have h9 := KW.size; omega);
             have KY : ∀ k : Nat, WY.cell? ⟨w.heap.size, k, none⟩ = _ := fun k => World.cell?_of_block (gY.block w.heap.size (by simp; omega) hne0);
             have YY0 := hide (show WY.heap[w.heap.size]? = some (.cells #[.string p.core.kind, .bool p.core.on, .bool p.core.broken, s, .int .i64 p.core.count, t] 37 : Obj) from (gY.block w.heap.size (by simp; omega) hne0).trans (heap_old (by omega) YX0.out));
             have YY1 := hide (show WY.heap[w.heap.size + 1]? = some (.cells #[.string ⟨#[]⟩, .bool false, .bool false, .slice none 0 0, .int .i64 0, .slice none 0 0] 37 : Obj) from (gY.block (w.heap.size + 1) (by simp; omega) hne1).trans (heap_old (by omega) YX1.out));
             obtain ⟨_, _, _, _, _, _, _⟩ := six_cells YY1.out)
      | (refine step_copy rfl _ _ 35 (by exact rfl) w0.heap.size 72 i0 _ 2 24 Try.underlying35 hi hz0 hz1 hz2 rfl (by decide) layerEn (fun _ => rfl) one_layer (.slice (some ⟨w0.heap.size, 0, none⟩) 0 0) t p.layers (by exact rfl) oN (by exact rfl) (RdL.below ht KWZ (Nat.le_refl _)) hZs (by omega) (by decide) ?_; intro vV WV oV gV aV; obtain ⟨AV, kV, rfl⟩ := oV.shape;
             have hme0 : some w.heap.size ≠ some w0.heap.size := (by simp; omega);
             have hme1 : some (w.heap.size + 1) ≠ some w0.heap.size := (by simp; omega);
             have KWV : Below w.heap.size w WV := Below.grown KWZ gV (Below.size KWZ) (fun k hk => by have e : w0.heap.size = k := Option.some.inj hk; omega);
             have KV : ∀ k : Nat, WV.cell? ⟨w.heap.size, k, none⟩ = _ := fun k => World.cell?_of_block (gV.block w.heap.size (by omega) hme0);
             have YV1 := hide (show WV.heap[w.heap.size + 1]? = some (.cells #[.string ⟨#[]⟩, .bool false, .bool false, .slice none 0 0, .int .i64 0, .slice none 0 0] 37 : Obj) from (gV.block (w.heap.size + 1) (by omega) hme1).trans YZ1.out);
             obtain ⟨_, _, _, _, _, _, _⟩ := six_cells YV1.out)
      | (go_at_call 84; refine (sCopyCore_c p.core s w0.drew (RdL.below hs b0.drew (Nat.le_refl _)) hl).mono ?_; rintro e WX ⟨vX, rfl, oX, bX⟩; obtain ⟨AX, kX, rfl⟩ := oX.shape; unfold coreV;
             have KW : Below w.heap.size w WX := below_then b0.drew bX;
             have KX : ∀ k : Nat, WX.cell? ⟨w.heap.size, k, none⟩ = _ := fun k => World.cell?_of_block (bX.block w.heap.size hL0);
             have YX0 := hide (show WX.heap[w.heap.size]? = some (.cells #[.string p.core.kind, .bool p.core.on, .bool p.core.broken, s, .int .i64 p.core.count, t] 37 : Obj) from (bX.block w.heap.size hL0).trans Y0.out);
             have YX1 := hide (show WX.heap[w.heap.size + 1]? = some (.cells #[.string ⟨#[]⟩, .bool false, .bool false, .slice none 0 0, .int .i64 0, .slice none 0 0] 37 : Obj) from (bX.block (w.heap.size + 1) hL1).trans Y1.out);
             have hX : w.heap.size + 1 < WX.heap.size := (Array.getElem?_eq_some_iff.1 YX1.out).1;
             have hXn : WX.heap.size ≠ w.heap.size := (by omega);
             obtain ⟨_, _, _, _, _, _, _⟩ := six_cells YX1.out)
      | (go_at_call 84; refine (sCopyCore_c p.core s (w0.alloc (.cells #[] 72)).drew (RdL.below hs (below_alloc b0 _).drew (Nat.le_refl _)) hl).mono ?_; rintro e WZ ⟨vZ, rfl, oZ, bZ⟩; obtain ⟨AZ, kZ, rfl⟩ := oZ.shape; unfold coreV;
             have KWZ : Below w.heap.size w WZ := below_then (below_alloc b0 _).drew bZ;
             have hLa0 : w.heap.size < (w0.alloc (.cells #[] 72)).drew.heap.size := (by simp; omega);
             have hLa1 : w.heap.size + 1 < (w0.alloc (.cells #[] 72)).drew.heap.size := (by simp; omega);
             have KZ : ∀ k : Nat, WZ.cell? ⟨w.heap.size, k, none⟩ = _ := fun k => World.cell?_of_block (bZ.block w.heap.size hLa0);
             have YZ0 := hide (show WZ.heap[w.heap.size]? = some (.cells #[.string p.core.kind, .bool p.core.on, .bool p.core.broken, s, .int .i64 p.core.count, t] 37 : Obj) from (bZ.block w.heap.size hLa0).trans (heap_old hL0 Y0.out));
             have YZ1 := hide (show WZ.heap[w.heap.size + 1]? = some (.cells #[.string ⟨#[]⟩, .bool false, .bool false, .slice none 0 0, .int .i64 0, .slice none 0 0] 37 : Obj) from (bZ.block (w.heap.size + 1) hLa1).trans (heap_old hL1 Y1.out));
             have hZ : w.heap.size + 1 < WZ.heap.size := (Array.getElem?_eq_some_iff.1 YZ1.out).1;
             have oN : OwnL WZ w0.heap.size 72 2 layerEn (.slice (some ⟨w0.heap.size, 0, none⟩) 0 0) [] := OwnL.below (OwnL.below (own_nil w0 72 2 layerEn) (Below.refl _ _).drew (Nat.le_refl _)) bZ (Nat.le_refl _);
             have hZs : w0.heap.size ≤ WZ.heap.size := (by have := bZ.size; simp at this; omega);
             obtain ⟨_, _, _, _, _, _, _⟩ := six_cells YZ1.out))
  · have h0 := hs0.out
    have hne : (Value.slice AX p.core.cells.length kX).ownBlock = none ∨ (Value.slice AX p.core.cells.length kX).ownBlock ≠ some WX.heap.size := by
      rcases hv : (Value.slice AX p.core.cells.length kX).ownBlock with _ | g
      · exact .inl rfl
      · exact .inr (fun e => by have h8 := (oX.lt hv).2; have h9 := Option.some.inj e; omega)
    have oX2 : OwnL WY w0.heap.size 96 2 cellEn (.slice AX p.core.cells.length kX) p.core.cells := OwnL.kept (OwnL.below oX (below_alloc (Below.refl _ _) _) (Nat.le_refl _)) gY hne
    have oY2 : OwnL WY WX.heap.size 72 2 layerEn (.slice AY p.layers.length kY) p.layers := oY
    have hd := OwnL.apart oX oY2 (Nat.le_refl _)
    have OX := hide oX2
    have OY := hide oY2
    have HD := hide hd
    clear oX oY oX2 oY2 hd gY bX hne
    obtain ⟨c0, c1, c2, c3, c4, c5, cf⟩ := six_cells YY1.out
    have HB2 := (((((KW2.setCell (p := ⟨w.heap.size + 1, 0, none⟩) (by simp) (Value.string p.core.kind)).setCell (p := ⟨w.heap.size + 1, 1, none⟩) (by simp) (Value.bool p.core.on)).setCell (p := ⟨w.heap.size + 1, 2, none⟩) (by simp) (Value.bool p.core.broken)).setCell (p := ⟨w.heap.size + 1, 3, none⟩) (by simp) (Value.slice AX p.core.cells.length kX)).setCell (p := ⟨w.heap.size + 1, 4, none⟩) (by simp) (Value.int .i64 p.core.count)).setCell (p := ⟨w.heap.size + 1, 5, none⟩) (by simp) (Value.slice AY p.layers.length kY)
    go_wp2
    refine bodyPost_ret (v := .agg #[.string p.core.kind, .bool p.core.on, .bool p.core.broken, .slice AX p.core.cells.length kX, .int .i64 p.core.count, .slice AY p.layers.length kY]) (by simp [results, Try.results56, go_sem, c0, c1, c2, c3, c4, c5]) rfl ⟨_, _, rfl, ?_, ?_, HD.out, HB2⟩
    · refine OwnL.mono (b' := w.heap.size) (base := w0.heap.size) ?_ (by omega)
      have HO' := OX.out
      iterate 6 refine OwnL.set ?_ (by simp <;> omega) _
      exact HO'
    · refine OwnL.mono (b' := w.heap.size) (base := WX.heap.size) ?_ (by omega)
      have HO' := OY.out
      iterate 6 refine OwnL.set ?_ (by simp <;> omega) _
      exact HO'
  · have h0 := hs0.out
    have hbz : ∀ g, (Value.slice AZ p.core.cells.length kZ).ownBlock = some g → w0.heap.size < g ∧ g < WZ.heap.size := fun g hg => by
      have h8 := oZ.lt hg
      have h9 : (w0.alloc (.cells #[] 72)).drew.heap.size = w0.heap.size + 1 := by simp
      omega
    have hne : (Value.slice AZ p.core.cells.length kZ).ownBlock = none ∨ (Value.slice AZ p.core.cells.length kZ).ownBlock ≠ some w0.heap.size := by
      rcases hv : (Value.slice AZ p.core.cells.length kZ).ownBlock with _ | g
      · exact .inl rfl
      · exact .inr (fun e => by have h8 := hbz g hv; have h9 := Option.some.inj e; omega)
    have oX2 : OwnL WV w0.heap.size 96 2 cellEn (.slice AZ p.core.cells.length kZ) p.core.cells := OwnL.mono (OwnL.kept oZ gV hne) (by simp)
    have hd : (Value.slice AZ p.core.cells.length kZ).ownBlock = none ∨ (Value.slice AZ p.core.cells.length kZ).ownBlock ≠ (Value.slice AV p.layers.length kV).ownBlock := by
      rcases hv : (Value.slice AZ p.core.cells.length kZ).ownBlock with _ | g
      · exact .inl rfl
      · refine .inr (fun e => ?_)
        have h8 := hbz g hv
        rcases aV with aV | aV
        · have h9 : some g = some w0.heap.size := e.trans aV
          have := Option.some.inj h9; omega
        · have h9 := Option.some.inj (e.trans aV); omega
    have OX := hide oX2
    have OY := hide oV
    have HD := hide hd
    clear oZ oV oX2 hd gV bZ hne oN hbz
    obtain ⟨c0, c1, c2, c3, c4, c5, cf⟩ := six_cells YV1.out
    have HB2 := (((((KWV.setCell (p := ⟨w.heap.size + 1, 0, none⟩) (by simp) (Value.string p.core.kind)).setCell (p := ⟨w.heap.size + 1, 1, none⟩) (by simp) (Value.bool p.core.on)).setCell (p := ⟨w.heap.size + 1, 2, none⟩) (by simp) (Value.bool p.core.broken)).setCell (p := ⟨w.heap.size + 1, 3, none⟩) (by simp) (Value.slice AZ p.core.cells.length kZ)).setCell (p := ⟨w.heap.size + 1, 4, none⟩) (by simp) (Value.int .i64 p.core.count)).setCell (p := ⟨w.heap.size + 1, 5, none⟩) (by simp) (Value.slice AV p.layers.length kV)
    go_wp2
    refine bodyPost_ret (v := .agg #[.string p.core.kind, .bool p.core.on, .bool p.core.broken, .slice AZ p.core.cells.length kZ, .int .i64 p.core.count, .slice AV p.layers.length kV]) (by simp [results, Try.results56, go_sem, c0, c1, c2, c3, c4, c5]) rfl ⟨_, _, rfl, ?_, ?_, HD.out, HB2⟩
    · refine OwnL.mono (b' := w.heap.size) (base := w0.heap.size) ?_ (by omega)
      have HO' := OX.out
      iterate 6 refine OwnL.set ?_ (by simp <;> omega) _
      exact HO'
    · refine OwnL.mono (b' := w.heap.size) (base := w0.heap.size) ?_ (by omega)
      have HO' := OY.out
      iterate 6 refine OwnL.set ?_ (by simp <;> omega) _
      exact HO'
end Go.Proofs.Ytplcdnahiimenaa
