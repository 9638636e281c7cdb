/- Contracts: drawn parts that may be none. Written by wip/tools/drawgen6.py. -/
import Derived.Test.YtnabpefjcgehiaaDrawPart2
import Derived.Test.YtnabpefjcgehiaaCopy
namespace Go.Proofs.Ytnabpefjcgehiaa
open Go.ChangeShapes Go.WideShapes Go.ChangeAt Go.RowKit
set_option maxRecDepth 100000
set_option linter.unusedVariables false
set_option maxHeartbeats 4000000 in
theorem l4Any_c (g : Nat) (l : List UInt8) (w : World) (hc : Cur w g l) (hgs : g < w.heap.size) :
    Calls Try.prog 30 #[.pointer (some ⟨g, 0, none⟩)] w fun e w' => ∃ (p : Pu.PartD) (s t : Value), e = .returned (partV p s t) ∧ OwnL w' w.heap.size 74 2 cellEn s p.core.cells ∧ OwnL w' w.heap.size 57 2 layerEn t p.layers ∧ DrawnP p 4 ∧ Cur w' g l ∧ w.grownBy w' (some g) := by
  obtain ⟨i0, hi, hz0, hz1, hz2⟩ := info_parts info_layer
  go_enter Try.func30, Try.ntmps30
  obtain ⟨w0, hw0⟩ : ∃ w0, Hid (w.alloc (.cells #[.string ⟨#[]⟩, .bool false, .bool false, .slice none 0 0, .int .i64 0, .slice none 0 0] 31 : Obj) = w0) := ⟨_, rfl⟩
  have hc0 : Cur w0 g l := by rw [← hw0.out]; exact hc.alloc hgs _
  have hg0 : w.grownBy w0 (some g) := by rw [← hw0.out]; exact grown_alloc (grown_refl _ _) _
  have hgs0 : g < w0.heap.size := Nat.lt_of_lt_of_le hgs hg0.size
  have Y0 := hide (show w0.heap[w.heap.size]? = some partNil by rw [← hw0.out]; exact heap_new rfl)
  have hng : some w.heap.size ≠ some g := by intro h; cases h; omega
  go_wp2_with fail
  rw [hw0.out]
  refine (l4Draw_c _ _ _ hc0 hgs0).mono ?_; rintro e w1 ⟨⟨⟨pk, po, pb, pl, pn⟩, py⟩, s, t, rfl, o1, l1, hD, hc1, hg1⟩
  obtain ⟨As, cs, rfl⟩ := o1.shape
  obtain ⟨At, ct, rfl⟩ := l1.shape
  unfold partV
  dsimp only at o1 l1 ⊢
  replace hD := hide hD
  have hgs1 : g < w1.heap.size := Nat.lt_of_lt_of_le hgs0 hg1.size
  have hpl : pl.length ≤ 6 := hD.out.1.2.2.1
  have hpy : py.length ≤ 3 := hD.out.2
  have hpy1 : py.length ≤ 9223372036854775807 := by omega
  obtain ⟨B, hB⟩ : ∃ B, Hid (w1.heap.size = B) := ⟨_, rfl⟩
  have Y1 := row_keep hg1 Y0.out hng
  have hBW : w.heap.size < B := by rw [← hB.out]; exact (Array.getElem?_eq_some_iff.1 Y1).1
  obtain ⟨w2, hw2⟩ : ∃ w2, Hid (w1.alloc (.cells #[.string pk, .bool po, .bool pb, .slice As pl.length cs, .int .i64 pn, .slice At py.length ct] 31 : Obj) = w2) := ⟨_, rfl⟩
  have b2 : Below w1.heap.size w1 w2 := by rw [← hw2.out]; exact below_alloc (Below.refl _ _) _
  have hS2 : Hid (PartSt w g B l (⟨⟨pk, po, pb, pl, pn⟩, py⟩ : Pu.PartD) (.slice As pl.length cs) (.slice At py.length ct) w2) := ⟨by rw [← hw2.out]; exact heap_new hB.out.symm, row_on b2 Y1, OwnL.below (o1.mono hg0.size) b2 (Nat.le_refl _), OwnL.below (l1.mono hg0.size) b2 (Nat.le_refl _), hc1.kept b2 hgs1, grown_below (grown_trans hg0 hg1) b2⟩
  clear hc0 hg0 hgs0 hc1 hg1 Y0 Y1 o1 l1 b2
  go_wp2_with fail
  rw [hw2.out]
  try simp only [hB.out]
  refine (l1Below_c _ _ _ _ hS2.out.cur (by omega)).mono ?_; rintro e w3 ⟨x, rfl, hx0, hx1, hc3, hgr3⟩
  clear hx0 hx1
  have hS := hide (hS2.out.draw hgs hBW hc3 hgr3)
  clear hS2 hc3 hgr3
  have X3 := hide (show w3.heap[B]? = some (.cells #[.string pk, .bool po, .bool pb, .slice As pl.length cs, .int .i64 pn, .slice At py.length ct] 31 (0, 0) : Obj) from hS.out.row)
  by_cases hx0 : x = 0
  · subst hx0
    obtain ⟨_, _, _, _, _, _, _⟩ := six_cells X3.out
    go_wp2_with fail
    refine (l3Any_c _ _ _ hS.out.cur (hS.out.lt hgs)).mono ?_; rintro e w4 ⟨⟨ck, co, cb, cl, cn⟩, sc, rfl, o4, hK, hc4, hgr4⟩
    obtain ⟨Ac, cc, rfl⟩ := o4.shape
    unfold coreV
    dsimp only at o4 ⊢
    replace hK := hide hK
    have hS4 := hide (hS.out.draw hgs hBW hc4 hgr4)
    have HC4 := hide (o4.mono hS.out.grown.size)
    clear o4 hc4 hgr4
    have X4 := hide (show w4.heap[B]? = some (.cells #[.string pk, .bool po, .bool pb, .slice As pl.length cs, .int .i64 pn, .slice At py.length ct] 31 (0, 0) : Obj) from hS4.out.row)
    clear X3
    have hS5 := hide (PartSt.core (c := ⟨ck, co, cb, cl, cn⟩) hS4.out hgs hBW HC4.out)
    obtain ⟨w5, hw5⟩ : ∃ w5, Hid (((((w4.setCell ⟨B, 0, none⟩ (.string ck)).setCell ⟨B, 1, none⟩ (.bool co)).setCell ⟨B, 2, none⟩ (.bool cb)).setCell ⟨B, 3, none⟩ (.slice Ac cl.length cc)).setCell ⟨B, 4, none⟩ (.int .i64 cn) = w5) := ⟨_, rfl⟩
    have hS6 : Hid (PartSt w g B l (⟨⟨ck, co, cb, cl, cn⟩, py⟩ : Pu.PartD) (.slice Ac cl.length cc) (.slice At py.length ct) w5) := by rw [← hw5.out]; exact hS5.out
    clear hS5
    obtain ⟨_, _, _, _, _, _, _⟩ := six_cells X4.out
    go_upto_region 10 with fail
    rw [hw5.out]
    clear X4
    have Xe := hide (show w5.heap[B]? = some (.cells #[.string ck, .bool co, .bool cb, .slice Ac cl.length cc, .int .i64 cn, .slice At py.length ct] 31 (0, 0) : Obj) from hS6.out.row)
    have Ye := hide (show w5.heap[w.heap.size]? = some partNil from hS6.out.res)
    obtain ⟨_, _, _, _, _, _, _⟩ := six_cells Xe.out
    obtain ⟨d0, d1, d2, d3, d4, d5, df⟩ := six_cells Ye.out
    go_wp2
    refine bodyPost_ret (v := .agg #[.string ck, .bool co, .bool cb, .slice Ac cl.length cc, .int .i64 cn, .slice At py.length ct]) (by simp [results, Try.results30, go_sem, d0, d1, d2, d3, d4, d5]) rfl ?_
    obtain ⟨z1, z2, z3, z4⟩ := hS6.out.ret hgs (.string ck) (.bool co) (.bool cb) (.slice Ac cl.length cc) (.int .i64 cn) (.slice At py.length ct) rfl
    exact ⟨(⟨⟨ck, co, cb, cl, cn⟩, py⟩ : Pu.PartD), _, _, rfl, z1, z2, ⟨hK.out, by show py.length ≤ 4; omega⟩, z3, z4⟩
  by_cases hx1 : x = 1
  · subst hx1
    obtain ⟨_, _, _, _, _, _, _⟩ := six_cells X3.out
    go_upto_region 6 with fail
    have hcD : Cur w3.drew g l := hS.out.cur
    have hgs3 : g < w3.heap.size := hS.out.lt hgs
    refine wp_region_T (F := 11) (fun w' => w'.heap[B]? = some (.cells #[.string pk, .bool po, .bool pb, .slice As pl.length cs, .int .i64 pn, .slice At py.length ct] 31 (0, 0) : Obj)) 10 (by kernel_rfl) rfl (by kernel_rfl) (fun TL inv => ?_)
    have HSz : (fun w' => w'.heap[B]? = some (.cells #[.string pk, .bool po, .bool pb, .slice As pl.length cs, .int .i64 pn, .slice At py.length ct] 31 (0, 0) : Obj)) w3.drew := X3.out
    refine wpAnyT_take (i := 0) (v := ?tkV1) TL inv HSz (by (simp only [List.getElem?_toArray, List.getElem?_cons_zero]); exact rfl) (by kernel_rfl) (by kernel_rfl) (by decide) (by exact fun _ _ _ h => h) (by rfl) ?tkY1 (fun inv => ?tkR1)
    case tkY1 => (intro w' hSw; obtain ⟨_, _, _, _, _, _, _⟩ := six_cells hSw; go_simp <;> with_reducible rfl)
    try simp only [Act.put, List.setIfInBounds_toArray, List.set_cons_zero, List.set_cons_succ]
    refine wpAnyT_take (i := 1) (v := ?tkV2) TL inv HSz (by (simp only [List.getElem?_toArray, List.getElem?_cons_succ, List.getElem?_cons_zero]); exact rfl) (by kernel_rfl) (by kernel_rfl) (by decide) (by exact fun _ _ _ h => h) (by rfl) ?tkY2 (fun inv => ?tkR2)
    case tkY2 => (intro w' hSw; obtain ⟨_, _, _, _, _, _, _⟩ := six_cells hSw; go_simp <;> with_reducible rfl)
    try simp only [Act.put, List.setIfInBounds_toArray, List.set_cons_zero, List.set_cons_succ]
    refine wpAnyT_take (i := 2) (v := ?tkV3) TL inv HSz (by (simp only [List.getElem?_toArray, List.getElem?_cons_succ, List.getElem?_cons_zero]); exact rfl) (by kernel_rfl) (by kernel_rfl) (by decide) (by exact fun _ _ _ h => h) (by rfl) ?tkY3 (fun inv => ?tkR3)
    case tkY3 => (intro w' hSw; obtain ⟨_, _, _, _, _, _, _⟩ := six_cells hSw; go_simp <;> with_reducible rfl)
    try simp only [Act.put, List.setIfInBounds_toArray, List.set_cons_zero, List.set_cons_succ]
    refine wpAnyT_take (i := 4) (v := ?tkV4) TL inv HSz (by (simp only [List.getElem?_toArray, List.getElem?_cons_succ, List.getElem?_cons_zero]); exact rfl) (by kernel_rfl) (by kernel_rfl) (by decide) (by exact fun _ _ _ h => h) (by rfl) ?tkY4 (fun inv => ?tkR4)
    case tkY4 => (intro w' hSw; obtain ⟨_, _, _, _, _, _, _⟩ := six_cells hSw; go_simp <;> with_reducible rfl)
    try simp only [Act.put, List.setIfInBounds_toArray, List.set_cons_zero, List.set_cons_succ]
    refine wpAnyT_one (i := 3) inv (by (simp only [List.getElem?_toArray, List.getElem?_cons_succ, List.getElem?_cons_zero]); exact rfl) (by kernel_rfl) (fun K hK => ?_)
    go_simp
    refine (l4Name_c _ _ _ hcD hgs3).mono ?_; rintro e w5 ⟨y, rfl, hy, hc5, hgr5⟩
    have hgr5 : w3.grownBy w5 (some g) := ⟨hgr5.os, hgr5.tape, hgr5.output, hgr5.size, hgr5.block⟩
    have hS5 := hide (hS.out.draw hgs hBW hc5 hgr5)
    clear hc5 hgr5
    have X5 := hide (show w5.heap[B]? = some (.cells #[.string pk, .bool po, .bool pb, .slice As pl.length cs, .int .i64 pn, .slice At py.length ct] 31 (0, 0) : Obj) from hS5.out.row)
    try go_wp2_with fail
    refine hK _ _ (fun _ => X5.out) (fun inv => ?_)
    have inv := inv (by decide)
    try simp only [Act.put, List.setIfInBounds_toArray, List.set_cons_zero, List.set_cons_succ]
    refine wpAnyT_one (i := 5) inv (by (simp only [List.getElem?_toArray, List.getElem?_cons_succ, List.getElem?_cons_zero]); exact rfl) (by kernel_rfl) (fun K hK => ?_)
    go_simp
    refine (l1Below_c _ _ _ _ hS5.out.cur (by omega)).mono ?_; rintro e w6 ⟨z, rfl, _, _, hc6, hgr6⟩
    have hS6 := hide (hS5.out.draw hgs hBW hc6 hgr6)
    clear hc6 hgr6
    have X6 := hide (show w6.heap[B]? = some (.cells #[.string pk, .bool po, .bool pb, .slice As pl.length cs, .int .i64 pn, .slice At py.length ct] 31 (0, 0) : Obj) from hS6.out.row)
    try go_wp2_with fail
    refine hK _ _ (fun _ => X6.out) (fun inv => ?_)
    have inv := inv (by decide)
    try simp only [Act.put, List.setIfInBounds_toArray, List.set_cons_zero, List.set_cons_succ]
    refine wpAnyT_take (i := 6) (v := ?tkV5) TL inv X6.out (by (simp only [List.getElem?_toArray, List.getElem?_cons_succ, List.getElem?_cons_zero]); exact rfl) (by kernel_rfl) (by kernel_rfl) (by decide) (by exact fun _ _ _ h => h) (by rfl) ?tkY5 (fun inv => ?tkR5)
    case tkY5 => (intro w' hSw; obtain ⟨_, _, _, _, _, _, _⟩ := six_cells hSw; go_simp <;> with_reducible rfl)
    try simp only [Act.put, List.setIfInBounds_toArray, List.set_cons_zero, List.set_cons_succ]
    have hS7 := hide (hS6.out.below hgs hBW (below_alloc (Below.refl _ _) (.cells #[.string y, .int .i64 z] 57 : Obj)))
    have X7 := hide (show (w6.alloc (.cells #[.string y, .int .i64 z] 57 : Obj)).heap[B]? = some (.cells #[.string pk, .bool po, .bool pb, .slice As pl.length cs, .int .i64 pn, .slice At py.length ct] 31 (0, 0) : Obj) from hS7.out.row)
    refine wpAnyT_one (i := 7) inv (by (simp only [List.getElem?_toArray, List.getElem?_cons_succ, List.getElem?_cons_zero]); exact rfl) (by kernel_rfl) (fun K hK => ?_)
    go_simp
    refine hK _ _ (fun _ => X7.out) (fun inv => ?_)
    have inv := inv (by decide)
    try simp only [Act.put, List.setIfInBounds_toArray, List.set_cons_zero, List.set_cons_succ]
    refine wpAnyT_one (i := 8) inv (by (simp only [List.getElem?_toArray, List.getElem?_cons_succ, List.getElem?_cons_zero]); exact rfl) (by kernel_rfl) (fun K hK => ?_)
    refine step_app rfl _ _ 29 (by exact rfl) w.heap.size 57 i0 _ 2 24 Try.underlying29 hi hz0 hz1 hz2 rfl (by decide) layerEn (fun _ => rfl) one_layer (.slice At py.length ct) _ py [⟨y, z⟩] (by exact rfl) hS7.out.lays (by exact rfl) (rd_layer1 _) (by have := hS7.out.grown.size; exact this) (by simp <;> omega) (by decide) ?_; intro v8 w8 o8 g8
    obtain ⟨A8, c8, he8⟩ := OwnL.shape o8
    have hl8 : (py ++ [(⟨y, z⟩ : Pu.LayerD)]).length = py.length + 1 := by simp
    rw [hl8] at he8
    subst he8
    obtain ⟨hX8, hS8⟩ := hS7.out.grow hgs hBW g8 o8
    have X8 := hide (show w8.heap[B]? = some (.cells #[.string pk, .bool po, .bool pb, .slice As pl.length cs, .int .i64 pn, .slice At py.length ct] 31 (0, 0) : Obj) from hX8)
    replace hS8 := hide hS8
    clear hX8 o8 g8 hl8
    refine hK _ _ (fun _ => X8.out) (fun inv => ?_)
    have inv := inv (by decide)
    try simp only [Act.put, List.setIfInBounds_toArray, List.set_cons_zero, List.set_cons_succ]
    refine wpAnyT_take (i := 9) (v := ?tkV6) TL inv X8.out (by (simp only [List.getElem?_toArray, List.getElem?_cons_succ, List.getElem?_cons_zero]); exact rfl) (by kernel_rfl) (by kernel_rfl) (by decide) (by exact fun _ _ _ h => h) (by rfl) ?tkY6 (fun inv => ?tkR6)
    case tkY6 => (intro w' hSw; obtain ⟨_, _, _, _, _, _, _⟩ := six_cells hSw; go_simp <;> with_reducible rfl)
    try simp only [Act.put, List.setIfInBounds_toArray, List.set_cons_zero, List.set_cons_succ]
    obtain ⟨_, _, _, _, _, _, _⟩ := six_cells X8.out
    refine wpAnyT_one (i := 10) inv (by (simp only [List.getElem?_toArray, List.getElem?_cons_succ, List.getElem?_cons_zero]); exact rfl) (by kernel_rfl) (fun K hK => ?_)
    go_simp
    refine hK _ _ (fun h => absurd rfl h) (fun _ => ?_)
    refine wpAnyT_done (by kernel_rfl) ?_ _
    try simp only [Act.put, List.setIfInBounds_toArray, List.set_cons_zero, List.set_cons_succ]
    obtain ⟨w9, hw9⟩ : ∃ w9, Hid (w8.setCell ⟨B, 5, none⟩ (.slice A8 (py.length + 1) c8) = w9) := ⟨_, rfl⟩
    rw [hw9.out] at hS8 ⊢
    have Xe := hide (show w9.heap[B]? = some (.cells #[.string pk, .bool po, .bool pb, .slice As pl.length cs, .int .i64 pn, .slice A8 (py.length + 1) c8] 31 (0, 0) : Obj) from hS8.out.row)
    have Ye := hide (show w9.heap[w.heap.size]? = some partNil from hS8.out.res)
    obtain ⟨_, _, _, _, _, _, _⟩ := six_cells Xe.out
    obtain ⟨d0, d1, d2, d3, d4, d5, df⟩ := six_cells Ye.out
    go_wp2
    refine bodyPost_ret (v := .agg #[.string pk, .bool po, .bool pb, .slice As pl.length cs, .int .i64 pn, .slice A8 (py.length + 1) c8]) (by simp [results, Try.results30, go_sem, d0, d1, d2, d3, d4, d5]) rfl ?_
    obtain ⟨z1, z2, z3, z4⟩ := hS8.out.ret hgs (.string pk) (.bool po) (.bool pb) (.slice As pl.length cs) (.int .i64 pn) (.slice A8 (py.length + 1) c8) rfl
    exact ⟨(⟨⟨pk, po, pb, pl, pn⟩, (py ++ [⟨y, z⟩])⟩ : Pu.PartD), _, _, rfl, z1, z2, ⟨hD.out.1, by show (py ++ [_]).length ≤ 4; simp; omega⟩, z3, z4⟩
  by_cases hx2 : x = 2
  · subst hx2
    by_cases hl0 : 0 < py.length
    · obtain ⟨gt, c2, x2, e1, hx, k0, k1, k2, hc1, hc2, hg1, hg2⟩ := hS.out.at_ (k := 0) hl0
      clear hx k0 k1 k2
      injection e1 with e1 e9 e2
      subst e1 e2
      clear e9
      obtain ⟨_, _, _, _, _, _, _⟩ := six_cells X3.out
      have hpc : py.length ≤ ct := hc1
      clear hc1
      go_upto_region 9 with fail
      clear X3
      obtain ⟨G, hGdef⟩ : ∃ G : Nat → Value → World → Prop, G = (fun j v wx => match j with | 0 => (v = .pointer (some ⟨B, 5, none⟩)) | 1 => (v = .slice (some ⟨gt, 0, none⟩) py.length ct) | 2 => (v = .pointer (some ⟨g, 0, none⟩)) | 3 => (v = .pointer (some ⟨B, 5, none⟩)) | 4 => (v = .slice (some ⟨gt, 0, none⟩) py.length ct) | 5 => (v = .int .i64 (py.length : Int)) | 6 => (∃ z : Nat, v = .int .i64 (z : Int) ∧ z < py.length) | 7 => (v = .pointer (some ⟨g, 0, none⟩)) | 8 => (∃ z : Int, v = .int .i64 z) | 9 => (∃ z : Nat, v = .pointer (some ⟨gt, z * 2, none⟩) ∧ z < py.length) | 10 => (∃ z : Nat, v = .pointer (some ⟨gt, z * 2 + 1, none⟩) ∧ z < py.length) | 11 => (True) | _ => True) := ⟨_, rfl⟩
      have G0 : ∀ v wx, G 0 v wx = (v = .pointer (some ⟨B, 5, none⟩)) := fun v wx => (congrFun (congrFun (congrFun hGdef 0) v) wx).trans rfl
      have G1 : ∀ v wx, G 1 v wx = (v = .slice (some ⟨gt, 0, none⟩) py.length ct) := fun v wx => (congrFun (congrFun (congrFun hGdef 1) v) wx).trans rfl
      have G2 : ∀ v wx, G 2 v wx = (v = .pointer (some ⟨g, 0, none⟩)) := fun v wx => (congrFun (congrFun (congrFun hGdef 2) v) wx).trans rfl
      have G3 : ∀ v wx, G 3 v wx = (v = .pointer (some ⟨B, 5, none⟩)) := fun v wx => (congrFun (congrFun (congrFun hGdef 3) v) wx).trans rfl
      have G4 : ∀ v wx, G 4 v wx = (v = .slice (some ⟨gt, 0, none⟩) py.length ct) := fun v wx => (congrFun (congrFun (congrFun hGdef 4) v) wx).trans rfl
      have G5 : ∀ v wx, G 5 v wx = (v = .int .i64 (py.length : Int)) := fun v wx => (congrFun (congrFun (congrFun hGdef 5) v) wx).trans rfl
      have G6 : ∀ v wx, G 6 v wx = (∃ z : Nat, v = .int .i64 (z : Int) ∧ z < py.length) := fun v wx => (congrFun (congrFun (congrFun hGdef 6) v) wx).trans rfl
      have G7 : ∀ v wx, G 7 v wx = (v = .pointer (some ⟨g, 0, none⟩)) := fun v wx => (congrFun (congrFun (congrFun hGdef 7) v) wx).trans rfl
      have G8 : ∀ v wx, G 8 v wx = (∃ z : Int, v = .int .i64 z) := fun v wx => (congrFun (congrFun (congrFun hGdef 8) v) wx).trans rfl
      have G9 : ∀ v wx, G 9 v wx = (∃ z : Nat, v = .pointer (some ⟨gt, z * 2, none⟩) ∧ z < py.length) := fun v wx => (congrFun (congrFun (congrFun hGdef 9) v) wx).trans rfl
      have G10 : ∀ v wx, G 10 v wx = (∃ z : Nat, v = .pointer (some ⟨gt, z * 2 + 1, none⟩) ∧ z < py.length) := fun v wx => (congrFun (congrFun (congrFun hGdef 10) v) wx).trans rfl
      have G11 : ∀ v wx, G 11 v wx = (True) := fun v wx => (congrFun (congrFun (congrFun hGdef 11) v) wx).trans rfl
      have Gn : ∀ j v wx, G (j + 12) v wx = True := fun j v wx => (congrFun (congrFun (congrFun hGdef _) v) wx).trans rfl
      clear hGdef
      have firm0 : ∀ j v, Firm [] (G j v) := by
        intro j v
        match j with
        | 0 => rw [show G 0 v = (fun wx => v = .pointer (some ⟨B, 5, none⟩)) from funext (G0 v)]; exact firm_const _
        | 1 => rw [show G 1 v = (fun wx => v = .slice (some ⟨gt, 0, none⟩) py.length ct) from funext (G1 v)]; exact firm_const _
        | 2 => rw [show G 2 v = (fun wx => v = .pointer (some ⟨g, 0, none⟩)) from funext (G2 v)]; exact firm_const _
        | 3 => rw [show G 3 v = (fun wx => v = .pointer (some ⟨B, 5, none⟩)) from funext (G3 v)]; exact firm_const _
        | 4 => rw [show G 4 v = (fun wx => v = .slice (some ⟨gt, 0, none⟩) py.length ct) from funext (G4 v)]; exact firm_const _
        | 5 => rw [show G 5 v = (fun wx => v = .int .i64 (py.length : Int)) from funext (G5 v)]; exact firm_const _
        | 6 => rw [show G 6 v = (fun wx => ∃ z : Nat, v = .int .i64 (z : Int) ∧ z < py.length) from funext (G6 v)]; exact firm_const _
        | 7 => rw [show G 7 v = (fun wx => v = .pointer (some ⟨g, 0, none⟩)) from funext (G7 v)]; exact firm_const _
        | 8 => rw [show G 8 v = (fun wx => ∃ z : Int, v = .int .i64 z) from funext (G8 v)]; exact firm_const _
        | 9 => rw [show G 9 v = (fun wx => ∃ z : Nat, v = .pointer (some ⟨gt, z * 2, none⟩) ∧ z < py.length) from funext (G9 v)]; exact firm_const _
        | 10 => rw [show G 10 v = (fun wx => ∃ z : Nat, v = .pointer (some ⟨gt, z * 2 + 1, none⟩) ∧ z < py.length) from funext (G10 v)]; exact firm_const _
        | 11 => rw [show G 11 v = (fun wx => True) from funext (G11 v)]; exact firm_const _
        | j + 12 => rw [show G (j + 12) v = (fun wx => True) from funext (Gn j v)]; exact firm_const _
      have firm1 : ∀ j v, Firm [69] (G j v) := by
        intro j v
        match j with
        | 0 => rw [show G 0 v = (fun wx => v = .pointer (some ⟨B, 5, none⟩)) from funext (G0 v)]; exact firm_const _
        | 1 => rw [show G 1 v = (fun wx => v = .slice (some ⟨gt, 0, none⟩) py.length ct) from funext (G1 v)]; exact firm_const _
        | 2 => rw [show G 2 v = (fun wx => v = .pointer (some ⟨g, 0, none⟩)) from funext (G2 v)]; exact firm_const _
        | 3 => rw [show G 3 v = (fun wx => v = .pointer (some ⟨B, 5, none⟩)) from funext (G3 v)]; exact firm_const _
        | 4 => rw [show G 4 v = (fun wx => v = .slice (some ⟨gt, 0, none⟩) py.length ct) from funext (G4 v)]; exact firm_const _
        | 5 => rw [show G 5 v = (fun wx => v = .int .i64 (py.length : Int)) from funext (G5 v)]; exact firm_const _
        | 6 => rw [show G 6 v = (fun wx => ∃ z : Nat, v = .int .i64 (z : Int) ∧ z < py.length) from funext (G6 v)]; exact firm_const _
        | 7 => rw [show G 7 v = (fun wx => v = .pointer (some ⟨g, 0, none⟩)) from funext (G7 v)]; exact firm_const _
        | 8 => rw [show G 8 v = (fun wx => ∃ z : Int, v = .int .i64 z) from funext (G8 v)]; exact firm_const _
        | 9 => rw [show G 9 v = (fun wx => ∃ z : Nat, v = .pointer (some ⟨gt, z * 2, none⟩) ∧ z < py.length) from funext (G9 v)]; exact firm_const _
        | 10 => rw [show G 10 v = (fun wx => ∃ z : Nat, v = .pointer (some ⟨gt, z * 2 + 1, none⟩) ∧ z < py.length) from funext (G10 v)]; exact firm_const _
        | 11 => rw [show G 11 v = (fun wx => True) from funext (G11 v)]; exact firm_const _
        | j + 12 => rw [show G (j + 12) v = (fun wx => True) from funext (Gn j v)]; exact firm_const _
      have firm2 : ∀ j v, Firm [57] (G j v) := by
        intro j v
        match j with
        | 0 => rw [show G 0 v = (fun wx => v = .pointer (some ⟨B, 5, none⟩)) from funext (G0 v)]; exact firm_const _
        | 1 => rw [show G 1 v = (fun wx => v = .slice (some ⟨gt, 0, none⟩) py.length ct) from funext (G1 v)]; exact firm_const _
        | 2 => rw [show G 2 v = (fun wx => v = .pointer (some ⟨g, 0, none⟩)) from funext (G2 v)]; exact firm_const _
        | 3 => rw [show G 3 v = (fun wx => v = .pointer (some ⟨B, 5, none⟩)) from funext (G3 v)]; exact firm_const _
        | 4 => rw [show G 4 v = (fun wx => v = .slice (some ⟨gt, 0, none⟩) py.length ct) from funext (G4 v)]; exact firm_const _
        | 5 => rw [show G 5 v = (fun wx => v = .int .i64 (py.length : Int)) from funext (G5 v)]; exact firm_const _
        | 6 => rw [show G 6 v = (fun wx => ∃ z : Nat, v = .int .i64 (z : Int) ∧ z < py.length) from funext (G6 v)]; exact firm_const _
        | 7 => rw [show G 7 v = (fun wx => v = .pointer (some ⟨g, 0, none⟩)) from funext (G7 v)]; exact firm_const _
        | 8 => rw [show G 8 v = (fun wx => ∃ z : Int, v = .int .i64 z) from funext (G8 v)]; exact firm_const _
        | 9 => rw [show G 9 v = (fun wx => ∃ z : Nat, v = .pointer (some ⟨gt, z * 2, none⟩) ∧ z < py.length) from funext (G9 v)]; exact firm_const _
        | 10 => rw [show G 10 v = (fun wx => ∃ z : Nat, v = .pointer (some ⟨gt, z * 2 + 1, none⟩) ∧ z < py.length) from funext (G10 v)]; exact firm_const _
        | 11 => rw [show G 11 v = (fun wx => True) from funext (G11 v)]; exact firm_const _
        | j + 12 => rw [show G (j + 12) v = (fun wx => True) from funext (Gn j v)]; exact firm_const _
      refine wp_region_absG (fun wx => ∃ ys : List Pu.LayerD, ys.length = py.length ∧ PartSt w g B l (⟨⟨pk, po, pb, pl, pn⟩, ys⟩ : Pu.PartD) (.slice As pl.length cs) (.slice (some ⟨gt, 0, none⟩) py.length ct) wx) [31, 32, 33, 34, 35, 36, 37, 38, 39, 40, 41] (fun j => match j with | 0 => 31 | 1 => 32 | 2 => 33 | 3 => 34 | 4 => 35 | 5 => 36 | 6 => 37 | 7 => 38 | 8 => 39 | 9 => 40 | 10 => 41 | 11 => 41 | _ => 0) (fun j => match j with | 0 => [] | 1 => [0] | 2 => [] | 3 => [] | 4 => [3] | 5 => [3, 4] | 6 => [2, 3, 4, 5] | 7 => [] | 8 => [7] | 9 => [0, 1, 2, 3, 4, 5, 6] | 10 => [0, 1, 2, 3, 4, 5, 6, 9] | 11 => [0, 1, 2, 3, 4, 5, 6, 7, 8, 9, 10] | _ => []) G (fun j => match j with | 0 => [] | 1 => [] | 2 => [] | 3 => [] | 4 => [] | 5 => [] | 6 => [69] | 7 => [] | 8 => [69] | 9 => [] | 10 => [] | 11 => [57] | _ => []) 43 (by kernel_rfl) (by kernel_rfl) rfl (by decide) (⟨py, rfl, hS.out.below hgs hBW (Below.refl _ _).drew⟩) ?firmc ?stpc ?finc
      case firmc =>
        intro i j hj hnd v
        match i with
        | 0 => exact firm0 j v
        | 1 => exact firm0 j v
        | 2 => exact firm0 j v
        | 3 => exact firm0 j v
        | 4 => exact firm0 j v
        | 5 => exact firm0 j v
        | 6 => exact firm1 j v
        | 7 => exact firm0 j v
        | 8 => exact firm1 j v
        | 9 => exact firm0 j v
        | 10 => exact firm0 j v
        | 11 => exact firm2 j v
        | i + 12 => exact firm0 j v
      case stpc =>
        refine StepsFrom.cons ?opc_0 (StepsFrom.cons ?opc_1 (StepsFrom.cons ?opc_2 (StepsFrom.cons ?opc_3 (StepsFrom.cons ?opc_4 (StepsFrom.cons ?opc_5 (StepsFrom.cons ?opc_6 (StepsFrom.cons ?opc_7 (StepsFrom.cons ?opc_8 (StepsFrom.cons ?opc_9 (StepsFrom.cons ?opc_10 (StepsFrom.cons ?opc_11 (StepsFrom.nil))))))))))))
        case opc_0 =>
          intro vs wy b hin hout hb hdep K hK
          have t3 : b.tmps[3]? = some (.pointer (some ⟨B, 0, none⟩)) := (hout 3 (by decide)).trans rfl
          clear hin hout hdep
          replace hK : ∀ v w', (fun wx => ∃ ys : List Pu.LayerD, ys.length = py.length ∧ PartSt w g B l (⟨⟨pk, po, pb, pl, pn⟩, ys⟩ : Pu.PartD) (.slice As pl.length cs) (.slice (some ⟨gt, 0, none⟩) py.length ct) wx) w' → Moved [] wy w' → (fun (v : Value) (wx : World) => v = .pointer (some ⟨B, 5, none⟩)) v w' → K (b.put (some 31) v) w' := fun v w' q1 q2 q3 => hK v w' q1 q2 (Eq.mpr (G0 _ _) q3)
          refine ⟨wanted_plain rfl, ?_⟩
          go_simp
          exact hK _ _ hb (moved_refl _) rfl
        case opc_1 =>
          intro vs wy b hin hout hb hdep K hK
          have h0 : (fun (v : Value) (wx : World) => v = .pointer (some ⟨B, 5, none⟩)) (vs 31) wy := by
            have h := hdep 0 (by decide)
            rw [G0] at h
            exact h
          dsimp only at h0
          have t31 := hin 31 (by decide)
          clear hin hout hdep
          replace hK : ∀ v w', (fun wx => ∃ ys : List Pu.LayerD, ys.length = py.length ∧ PartSt w g B l (⟨⟨pk, po, pb, pl, pn⟩, ys⟩ : Pu.PartD) (.slice As pl.length cs) (.slice (some ⟨gt, 0, none⟩) py.length ct) wx) w' → Moved [] wy w' → (fun (v : Value) (wx : World) => v = .slice (some ⟨gt, 0, none⟩) py.length ct) v w' → K (b.put (some 32) v) w' := fun v w' q1 q2 q3 => hK v w' q1 q2 (Eq.mpr (G1 _ _) q3)
          refine ⟨wanted_plain rfl, ?_⟩
          obtain ⟨ys9, hy9, st9⟩ := hb
          have e0 := h0
          have X9 := hide (show wy.heap[B]? = some (.cells #[.string pk, .bool po, .bool pb, .slice As pl.length cs, .int .i64 pn, .slice (some ⟨gt, 0, none⟩) py.length ct] 31 (0, 0) : Obj) from st9.row)
          obtain ⟨_, _, _, _, _, _, _⟩ := six_cells X9.out
          go_simp
          exact hK _ _ ⟨ys9, hy9, st9⟩ (moved_refl _) rfl
        case opc_2 =>
          intro vs wy b hin hout hb hdep K hK
          have t0 : b.tmps[0]? = some (.pointer (some ⟨g, 0, none⟩)) := (hout 0 (by decide)).trans rfl
          clear hin hout hdep
          replace hK : ∀ v w', (fun wx => ∃ ys : List Pu.LayerD, ys.length = py.length ∧ PartSt w g B l (⟨⟨pk, po, pb, pl, pn⟩, ys⟩ : Pu.PartD) (.slice As pl.length cs) (.slice (some ⟨gt, 0, none⟩) py.length ct) wx) w' → Moved [] wy w' → (fun (v : Value) (wx : World) => v = .pointer (some ⟨g, 0, none⟩)) v w' → K (b.put (some 33) v) w' := fun v w' q1 q2 q3 => hK v w' q1 q2 (Eq.mpr (G2 _ _) q3)
          refine ⟨wanted_plain rfl, ?_⟩
          go_simp
          exact hK _ _ hb (moved_refl _) rfl
        case opc_3 =>
          intro vs wy b hin hout hb hdep K hK
          have t3 : b.tmps[3]? = some (.pointer (some ⟨B, 0, none⟩)) := (hout 3 (by decide)).trans rfl
          clear hin hout hdep
          replace hK : ∀ v w', (fun wx => ∃ ys : List Pu.LayerD, ys.length = py.length ∧ PartSt w g B l (⟨⟨pk, po, pb, pl, pn⟩, ys⟩ : Pu.PartD) (.slice As pl.length cs) (.slice (some ⟨gt, 0, none⟩) py.length ct) wx) w' → Moved [] wy w' → (fun (v : Value) (wx : World) => v = .pointer (some ⟨B, 5, none⟩)) v w' → K (b.put (some 34) v) w' := fun v w' q1 q2 q3 => hK v w' q1 q2 (Eq.mpr (G3 _ _) q3)
          refine ⟨wanted_plain rfl, ?_⟩
          go_simp
          exact hK _ _ hb (moved_refl _) rfl
        case opc_4 =>
          intro vs wy b hin hout hb hdep K hK
          have h3 : (fun (v : Value) (wx : World) => v = .pointer (some ⟨B, 5, none⟩)) (vs 34) wy := by
            have h := hdep 3 (by decide)
            rw [G3] at h
            exact h
          dsimp only at h3
          have t34 := hin 34 (by decide)
          clear hin hout hdep
          replace hK : ∀ v w', (fun wx => ∃ ys : List Pu.LayerD, ys.length = py.length ∧ PartSt w g B l (⟨⟨pk, po, pb, pl, pn⟩, ys⟩ : Pu.PartD) (.slice As pl.length cs) (.slice (some ⟨gt, 0, none⟩) py.length ct) wx) w' → Moved [] wy w' → (fun (v : Value) (wx : World) => v = .slice (some ⟨gt, 0, none⟩) py.length ct) v w' → K (b.put (some 35) v) w' := fun v w' q1 q2 q3 => hK v w' q1 q2 (Eq.mpr (G4 _ _) q3)
          refine ⟨wanted_plain rfl, ?_⟩
          obtain ⟨ys9, hy9, st9⟩ := hb
          have e0 := h3
          have X9 := hide (show wy.heap[B]? = some (.cells #[.string pk, .bool po, .bool pb, .slice As pl.length cs, .int .i64 pn, .slice (some ⟨gt, 0, none⟩) py.length ct] 31 (0, 0) : Obj) from st9.row)
          obtain ⟨_, _, _, _, _, _, _⟩ := six_cells X9.out
          go_simp
          exact hK _ _ ⟨ys9, hy9, st9⟩ (moved_refl _) rfl
        case opc_5 =>
          intro vs wy b hin hout hb hdep K hK
          have h4 : (fun (v : Value) (wx : World) => v = .slice (some ⟨gt, 0, none⟩) py.length ct) (vs 35) wy := by
            have h := hdep 4 (by decide)
            rw [G4] at h
            exact h
          dsimp only at h4
          have t35 := hin 35 (by decide)
          clear hin hout hdep
          replace hK : ∀ v w', (fun wx => ∃ ys : List Pu.LayerD, ys.length = py.length ∧ PartSt w g B l (⟨⟨pk, po, pb, pl, pn⟩, ys⟩ : Pu.PartD) (.slice As pl.length cs) (.slice (some ⟨gt, 0, none⟩) py.length ct) wx) w' → Moved [] wy w' → (fun (v : Value) (wx : World) => v = .int .i64 (py.length : Int)) v w' → K (b.put (some 36) v) w' := fun v w' q1 q2 q3 => hK v w' q1 q2 (Eq.mpr (G5 _ _) q3)
          refine ⟨wanted_plain rfl, ?_⟩
          have e4 := h4
          go_simp
          exact hK _ _ hb (moved_refl _) rfl
        case opc_6 =>
          intro vs wy b hin hout hb hdep K hK
          have h2 : (fun (v : Value) (wx : World) => v = .pointer (some ⟨g, 0, none⟩)) (vs 33) wy := by
            have h := hdep 2 (by decide)
            rw [G2] at h
            exact h
          dsimp only at h2
          have h5 : (fun (v : Value) (wx : World) => v = .int .i64 (py.length : Int)) (vs 36) wy := by
            have h := hdep 5 (by decide)
            rw [G5] at h
            exact h
          dsimp only at h5
          have t33 := hin 33 (by decide)
          have t36 := hin 36 (by decide)
          clear hin hout hdep
          replace hK : ∀ v w', (fun wx => ∃ ys : List Pu.LayerD, ys.length = py.length ∧ PartSt w g B l (⟨⟨pk, po, pb, pl, pn⟩, ys⟩ : Pu.PartD) (.slice As pl.length cs) (.slice (some ⟨gt, 0, none⟩) py.length ct) wx) w' → Moved [69] wy w' → (fun (v : Value) (wx : World) => ∃ z : Nat, v = .int .i64 (z : Int) ∧ z < py.length) v w' → K (b.put (some 37) v) w' := fun v w' q1 q2 q3 => hK v w' q1 q2 (Eq.mpr (G6 _ _) q3)
          refine ⟨wanted_plain rfl, ?_⟩
          obtain ⟨ys9, hy9, st9⟩ := hb
          have e2 := h2
          have e5 := h5
          go_simp
          refine (l1Below_c g l _ _ st9.cur (by omega)).mono ?_
          rintro e wz ⟨z, rfl, hz0, hz1, hc9, hgr9⟩
          have hz2 := hz1 (by omega)
          obtain ⟨z, rfl⟩ := Int.eq_ofNat_of_zero_le hz0
          exact hK _ _ ⟨ys9, hy9, st9.draw hgs hBW hc9 hgr9⟩ (moved_draw st9.cur hc9 hgr9) ⟨z, rfl, by omega⟩
        case opc_7 =>
          intro vs wy b hin hout hb hdep K hK
          have t0 : b.tmps[0]? = some (.pointer (some ⟨g, 0, none⟩)) := (hout 0 (by decide)).trans rfl
          clear hin hout hdep
          replace hK : ∀ v w', (fun wx => ∃ ys : List Pu.LayerD, ys.length = py.length ∧ PartSt w g B l (⟨⟨pk, po, pb, pl, pn⟩, ys⟩ : Pu.PartD) (.slice As pl.length cs) (.slice (some ⟨gt, 0, none⟩) py.length ct) wx) w' → Moved [] wy w' → (fun (v : Value) (wx : World) => v = .pointer (some ⟨g, 0, none⟩)) v w' → K (b.put (some 38) v) w' := fun v w' q1 q2 q3 => hK v w' q1 q2 (Eq.mpr (G7 _ _) q3)
          refine ⟨wanted_plain rfl, ?_⟩
          go_simp
          exact hK _ _ hb (moved_refl _) rfl
        case opc_8 =>
          intro vs wy b hin hout hb hdep K hK
          have h7 : (fun (v : Value) (wx : World) => v = .pointer (some ⟨g, 0, none⟩)) (vs 38) wy := by
            have h := hdep 7 (by decide)
            rw [G7] at h
            exact h
          dsimp only at h7
          have t38 := hin 38 (by decide)
          clear hin hout hdep
          replace hK : ∀ v w', (fun wx => ∃ ys : List Pu.LayerD, ys.length = py.length ∧ PartSt w g B l (⟨⟨pk, po, pb, pl, pn⟩, ys⟩ : Pu.PartD) (.slice As pl.length cs) (.slice (some ⟨gt, 0, none⟩) py.length ct) wx) w' → Moved [69] wy w' → (fun (v : Value) (wx : World) => ∃ z : Int, v = .int .i64 z) v w' → K (b.put (some 39) v) w' := fun v w' q1 q2 q3 => hK v w' q1 q2 (Eq.mpr (G8 _ _) q3)
          refine ⟨wanted_plain rfl, ?_⟩
          obtain ⟨ys9, hy9, st9⟩ := hb
          have e7 := h7
          go_simp
          refine (l1Odd_c g l _ st9.cur (st9.lt hgs)).mono ?_
          rintro e wz ⟨z, rfl, _, hc9, hgr9⟩
          exact hK _ _ ⟨ys9, hy9, st9.draw hgs hBW hc9 hgr9⟩ (moved_draw st9.cur hc9 hgr9) ⟨z, rfl⟩
        case opc_9 =>
          intro vs wy b hin hout hb hdep K hK
          have h1 : (fun (v : Value) (wx : World) => v = .slice (some ⟨gt, 0, none⟩) py.length ct) (vs 32) wy := by
            have h := hdep 1 (by decide)
            rw [G1] at h
            exact h
          dsimp only at h1
          have h6 : (fun (v : Value) (wx : World) => ∃ z : Nat, v = .int .i64 (z : Int) ∧ z < py.length) (vs 37) wy := by
            have h := hdep 6 (by decide)
            rw [G6] at h
            exact h
          dsimp only at h6
          have t32 := hin 32 (by decide)
          have t37 := hin 37 (by decide)
          clear hin hout hdep
          replace hK : ∀ v w', (fun wx => ∃ ys : List Pu.LayerD, ys.length = py.length ∧ PartSt w g B l (⟨⟨pk, po, pb, pl, pn⟩, ys⟩ : Pu.PartD) (.slice As pl.length cs) (.slice (some ⟨gt, 0, none⟩) py.length ct) wx) w' → Moved [] wy w' → (fun (v : Value) (wx : World) => ∃ z : Nat, v = .pointer (some ⟨gt, z * 2, none⟩) ∧ z < py.length) v w' → K (b.put (some 40) v) w' := fun v w' q1 q2 q3 => hK v w' q1 q2 (Eq.mpr (G9 _ _) q3)
          refine ⟨wanted_plain rfl, ?_⟩
          have e1 := h1
          obtain ⟨z, e6, hz⟩ := h6
          go_simp
          exact hK _ _ hb (moved_refl _) ⟨z, by first | rfl | simp, hz⟩
        case opc_10 =>
          intro vs wy b hin hout hb hdep K hK
          have h9 : (fun (v : Value) (wx : World) => ∃ z : Nat, v = .pointer (some ⟨gt, z * 2, none⟩) ∧ z < py.length) (vs 40) wy := by
            have h := hdep 9 (by decide)
            rw [G9] at h
            exact h
          dsimp only at h9
          have t40 := hin 40 (by decide)
          clear hin hout hdep
          replace hK : ∀ v w', (fun wx => ∃ ys : List Pu.LayerD, ys.length = py.length ∧ PartSt w g B l (⟨⟨pk, po, pb, pl, pn⟩, ys⟩ : Pu.PartD) (.slice As pl.length cs) (.slice (some ⟨gt, 0, none⟩) py.length ct) wx) w' → Moved [] wy w' → (fun (v : Value) (wx : World) => ∃ z : Nat, v = .pointer (some ⟨gt, z * 2 + 1, none⟩) ∧ z < py.length) v w' → K (b.put (some 41) v) w' := fun v w' q1 q2 q3 => hK v w' q1 q2 (Eq.mpr (G10 _ _) q3)
          refine ⟨wanted_plain rfl, ?_⟩
          obtain ⟨z, e9, hz⟩ := h9
          go_simp
          exact hK _ _ hb (moved_refl _) ⟨z, by first | rfl | simp, hz⟩
        case opc_11 =>
          intro vs wy b hin hout hb hdep K hK
          have h8 : (fun (v : Value) (wx : World) => ∃ z : Int, v = .int .i64 z) (vs 39) wy := by
            have h := hdep 8 (by decide)
            rw [G8] at h
            exact h
          dsimp only at h8
          have h10 : (fun (v : Value) (wx : World) => ∃ z : Nat, v = .pointer (some ⟨gt, z * 2 + 1, none⟩) ∧ z < py.length) (vs 41) wy := by
            have h := hdep 10 (by decide)
            rw [G10] at h
            exact h
          dsimp only at h10
          have t39 := hin 39 (by decide)
          have t41 := hin 41 (by decide)
          clear hin hout hdep
          replace hK : ∀ v w', (fun wx => ∃ ys : List Pu.LayerD, ys.length = py.length ∧ PartSt w g B l (⟨⟨pk, po, pb, pl, pn⟩, ys⟩ : Pu.PartD) (.slice As pl.length cs) (.slice (some ⟨gt, 0, none⟩) py.length ct) wx) w' → Moved [57] wy w' → (fun (v : Value) (wx : World) => True) (vs 41) w' → K (b.put (none) v) w' := fun v w' q1 q2 q3 => hK v w' q1 q2 (Eq.mpr (G11 _ _) q3)
          refine ⟨wanted_plain rfl, ?_⟩
          obtain ⟨ys9, hy9, st9⟩ := hb
          obtain ⟨z0, e8⟩ := h8
          obtain ⟨z, e10, hz⟩ := h10
          obtain ⟨G9, c9, x9, q1, q2, q3, q4, q5, q6, q7, q8, q9⟩ := st9.at_ (k := z) (by show z < ys9.length; omega)
          injection q1 with q1 q1a q1b
          injection q1 with q1
          injection q1 with q1 q1c q1d
          subst q1
          clear q1a q1b q1c q1d
          go_simp
          exact hK undef _ ⟨_, by simpa using hy9, (st9.count hgs rfl q2.out z0).1⟩ (.inr ⟨gt, 57, by simp, (st9.count hgs rfl q2.out z0).2⟩) trivial
      case finc =>
        intro vs wz b hin hbeq hb hall
        clear hall hin
        subst hbeq
        simp only [actAt, slots, List.foldl_cons, List.foldl_nil, List.setIfInBounds_toArray, List.set_cons_zero, List.set_cons_succ]
        obtain ⟨ys3, hy3, hS3⟩ := hb
        have hS3 := hide hS3
        have hy3 := hide hy3
        have Xe := hide (show wz.heap[B]? = some (.cells #[.string pk, .bool po, .bool pb, .slice As pl.length cs, .int .i64 pn, .slice (some ⟨gt, 0, none⟩) py.length ct] 31 (0, 0) : Obj) from hS3.out.row)
        have Ye := hide (show wz.heap[w.heap.size]? = some partNil from hS3.out.res)
        obtain ⟨_, _, _, _, _, _, _⟩ := six_cells Xe.out
        obtain ⟨d0, d1, d2, d3, d4, d5, df⟩ := six_cells Ye.out
        go_wp2
        refine bodyPost_ret (v := .agg #[.string pk, .bool po, .bool pb, .slice As pl.length cs, .int .i64 pn, .slice (some ⟨gt, 0, none⟩) py.length ct]) (by simp [results, Try.results30, go_sem, d0, d1, d2, d3, d4, d5]) rfl ?_
        obtain ⟨z1, z2, z3, z4⟩ := hS3.out.ret hgs (.string pk) (.bool po) (.bool pb) (.slice As pl.length cs) (.int .i64 pn) (.slice (some ⟨gt, 0, none⟩) py.length ct) rfl
        exact ⟨(⟨⟨pk, po, pb, pl, pn⟩, ys3⟩ : Pu.PartD), _, _, rfl, z1, z2, ⟨hD.out.1, by show ys3.length ≤ 4; rw [hy3.out]; omega⟩, z3, z4⟩
    · skip
      have Xe := hide (show w3.heap[B]? = some (.cells #[.string pk, .bool po, .bool pb, .slice As pl.length cs, .int .i64 pn, .slice At py.length ct] 31 (0, 0) : Obj) from hS.out.row)
      have Ye := hide (show w3.heap[w.heap.size]? = some partNil from hS.out.res)
      obtain ⟨_, _, _, _, _, _, _⟩ := six_cells Xe.out
      obtain ⟨d0, d1, d2, d3, d4, d5, df⟩ := six_cells Ye.out
      go_wp2
      refine bodyPost_ret (v := .agg #[.string pk, .bool po, .bool pb, .slice As pl.length cs, .int .i64 pn, .slice At py.length ct]) (by simp [results, Try.results30, go_sem, d0, d1, d2, d3, d4, d5]) rfl ?_
      obtain ⟨z1, z2, z3, z4⟩ := hS.out.ret hgs (.string pk) (.bool po) (.bool pb) (.slice As pl.length cs) (.int .i64 pn) (.slice At py.length ct) rfl
      exact ⟨(⟨⟨pk, po, pb, pl, pn⟩, py⟩ : Pu.PartD), _, _, rfl, z1, z2, ⟨hD.out.1, by show py.length ≤ 4; omega⟩, z3, z4⟩
  have Xe := hide (show w3.heap[B]? = some (.cells #[.string pk, .bool po, .bool pb, .slice As pl.length cs, .int .i64 pn, .slice At py.length ct] 31 (0, 0) : Obj) from hS.out.row)
  have Ye := hide (show w3.heap[w.heap.size]? = some partNil from hS.out.res)
  obtain ⟨_, _, _, _, _, _, _⟩ := six_cells Xe.out
  obtain ⟨d0, d1, d2, d3, d4, d5, df⟩ := six_cells Ye.out
  go_wp2
  refine bodyPost_ret (v := .agg #[.string pk, .bool po, .bool pb, .slice As pl.length cs, .int .i64 pn, .slice At py.length ct]) (by simp [results, Try.results30, go_sem, d0, d1, d2, d3, d4, d5]) rfl ?_
  obtain ⟨z1, z2, z3, z4⟩ := hS.out.ret hgs (.string pk) (.bool po) (.bool pb) (.slice As pl.length cs) (.int .i64 pn) (.slice At py.length ct) rfl
  exact ⟨(⟨⟨pk, po, pb, pl, pn⟩, py⟩ : Pu.PartD), _, _, rfl, z1, z2, ⟨hD.out.1, by show py.length ≤ 4; omega⟩, z3, z4⟩
end Go.Proofs.Ytnabpefjcgehiaa
