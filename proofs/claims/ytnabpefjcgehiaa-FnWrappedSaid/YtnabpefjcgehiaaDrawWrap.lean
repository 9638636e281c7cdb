/- Contracts: drawn parts and adapters. Written by wip/tools/drawgen6.py. -/
import Derived.Test.YtnabpefjcgehiaaDrawPart3
namespace Go.Proofs.Ytnabpefjcgehiaa
open Go.ChangeShapes Go.WideShapes Go.ChangeAt Go.RowKit
set_option maxRecDepth 100000
set_option linter.unusedVariables false
/-- what lies in the block of a result: no byte of a code -/
def ResP (cs : Array Value) : Prop := ∃ (k : ByteArray) (o b : Bool) (A : Option Addr) (n1 c1 : Nat) (n : Int) (A2 : Option Addr) (n2 c2 : Nat), cs = #[.string k, .bool o, .bool b, .slice A n1 c1, .int .i64 n, .slice A2 n2 c2]
theorem ResP.six {cs : Array Value} (h : ResP cs) : cs.size = 6 := by
  obtain ⟨_, _, _, _, _, _, _, _, _, _, rfl⟩ := h
  rfl
theorem ResP.ne {cs : Array Value} (h : ResP cs) (j : Nat) (x : Nat) : cs[j]? ≠ some (.int .u8 x) := by
  obtain ⟨_, _, _, _, _, _, _, _, _, _, rfl⟩ := h
  match j with
  | 0 | 1 | 2 | 3 | 4 | 5 => simp
  | j + 6 => simp
/-- the state of DrawWrap: the part, its rows, the cursor, the result's block -/
structure WrapSt (w0 : World) (g B b1 : Nat) (l : List UInt8) (p : Pu.PartD) (s t : Value) (w : World) : Prop where
  row : w.heap[B]? = some (partObj p s t)
  cells : OwnL w b1 74 2 cellEn s p.core.cells
  lays : OwnL w b1 57 2 layerEn t p.layers
  cur : Cur w g l
  below : Below w0.heap.size w0 w
  res : ∃ cs, w.heap[w0.heap.size]? = some (.cells cs 31 (0, 0)) ∧ ResP cs
section
variable {w0 w w' : World} {g B b1 : Nat} {l : List UInt8} {p : Pu.PartD} {s t : Value}
theorem WrapSt.ltG (h : WrapSt w0 g B b1 l p s t w) : g < w.heap.size := by
  obtain ⟨_, _, _, _, h1, _⟩ := h.cur
  exact (Array.getElem?_eq_some_iff.1 h1).1
theorem WrapSt.on (h : WrapSt w0 g B b1 l p s t w) (hb : Below w.heap.size w w') : WrapSt w0 g B b1 l p s t w' := by
  obtain ⟨cs, hr, hn⟩ := h.res
  exact ⟨row_on hb h.row, OwnL.below h.cells hb (Nat.le_refl _), OwnL.below h.lays hb (Nat.le_refl _), h.cur.kept hb h.ltG, below_then h.below hb, cs, row_on hb hr, hn⟩
theorem WrapSt.draw (h : WrapSt w0 g B b1 l p s t w) (h0 : w0.heap.size < g) (h1 : g < b1) (h2 : b1 ≤ B) (hc : Cur w' g l) (hgr : w.grownBy w' (some g)) : WrapSt w0 g B b1 l p s t w' := by
  obtain ⟨cs, hr, hn⟩ := h.res
  exact ⟨row_keep hgr h.row (by intro e; have := Option.some.inj e; omega), own_keep h.cells hgr h1, own_keep h.lays hgr h1, hc, Below.grown h.below hgr h.below.size (fun k hk => by have := Option.some.inj hk; omega), cs, row_keep hgr hr (by intro e; have := Option.some.inj e; omega), hn⟩
theorem WrapSt.store (h : WrapSt w0 g B b1 l p s t w) (h0 : w0.heap.size < g) (h1 : g < b1) (h2 : b1 ≤ B) {cs : Array Value} (hr' : w'.heap[w0.heap.size]? = some (.cells cs 31 (0, 0))) (hn' : ResP cs) (hgr : w.grownBy w' (some w0.heap.size)) : WrapSt w0 g B b1 l p s t w' := by
  obtain ⟨_, hr, hn⟩ := h.res
  refine ⟨row_keep hgr h.row (by intro e; have := Option.some.inj e; omega), OwnL.kept h.cells hgr (.inr (own_apart h.cells hr (by decide))), OwnL.kept h.lays hgr (.inr (own_apart h.lays hr (by decide))), ?_, Below.grown h.below hgr h.below.size (fun k hk => by have := Option.some.inj hk; omega), cs, hr', hn'⟩
  obtain ⟨A, i, c, hh, hg, hl, hA⟩ := h.cur
  refine ⟨A, i, c, hh, row_keep hgr hg (by intro e; have := Option.some.inj e; omega), hl, fun hl0 => ?_⟩
  obtain ⟨g', o, e, hlt, hcell⟩ := hA hl0
  refine ⟨g', o, e, hlt, fun i x hx => ?_⟩
  have hc := hcell i x hx
  refine (World.cell?_of_block (a := ⟨g', o + i, none⟩) (hgr.block g' (by have := h.ltG; omega) ?_)).trans hc
  intro e9
  obtain rfl := Option.some.inj e9
  have hce := cell_of_row w w0.heap.size (o + i) _ _ (0, 0) hr
  exact hn.ne _ _ (hce.symm.trans hc)
end
set_option maxHeartbeats 4000000 in
theorem drawWrap_c (v : Value) (l : List UInt8) (w : World) (hv : RdL w 1 byteEn v l) (hl : l.length ≤ 4096) :
    Calls Try.prog 16 #[v] w fun e w' => ∃ (p : Pu.PartD) (s t : Value) (n : ByteArray), e = .returned (.tuple #[partV p s t, .string n]) ∧ OwnL w' w.heap.size 74 2 cellEn s p.core.cells ∧ OwnL w' w.heap.size 57 2 layerEn t p.layers ∧ DrawnP p 4 ∧ n.size ≤ 6 ∧ Below w.heap.size w w' := by
  go_enter Try.func16, Try.ntmps16
  obtain ⟨w0, hw0⟩ : ∃ w0, Hid (w.alloc (.cells #[.string ⟨#[]⟩, .bool false, .bool false, .slice none 0 0, .int .i64 0, .slice none 0 0] 31 : Obj) = w0) := ⟨_, rfl⟩
  have b0 : Below w.heap.size w w0 := by rw [← hw0.out]; exact below_alloc (Below.refl _ _) _
  have Y0 : w0.heap[w.heap.size]? = some partNil := by rw [← hw0.out]; exact heap_new rfl
  have hs0 : w.heap.size < w0.heap.size := (Array.getElem?_eq_some_iff.1 Y0).1
  replace Y0 := hide Y0
  have HV := hide (RdL.below hv b0 (Nat.le_refl _))
  replace b0 := hide b0
  clear hv
  go_wp2_with fail
  rw [hw0.out]
  refine (l1New_c _ _ _ HV.out hl).mono ?_; rintro e w1 ⟨g, rfl, hg0, hg1, hc1, bb1⟩
  have b1W := hide (below_then b0.out bb1)
  have Y1 := hide (row_on bb1 Y0.out)
  clear bb1
  go_wp2_with fail
  refine (l4Any_c _ _ _ hc1 hg1).mono ?_; rintro e w2 ⟨⟨⟨pk, po, pb, pl, pn⟩, py⟩, s, t, rfl, o1, l1, hD, hc2, hgr2⟩
  obtain ⟨As, cs, rfl⟩ := o1.shape
  obtain ⟨At, ct, rfl⟩ := l1.shape
  unfold partV
  dsimp only at o1 l1 ⊢
  replace hD := hide hD
  obtain ⟨B, hB⟩ : ∃ B, Hid (w2.heap.size = B) := ⟨_, rfl⟩
  obtain ⟨b1, hb1⟩ : ∃ b1, Hid (w1.heap.size = b1) := ⟨_, rfl⟩
  have hgw : w.heap.size < g := by omega
  have hgb : g < b1 := by rw [← hb1.out]; exact hg1
  have hbB : b1 ≤ B := by rw [← hb1.out, ← hB.out]; exact hgr2.size
  have hwb : w.heap.size ≤ b1 := by omega
  have hgs2 : g < w2.heap.size := Nat.lt_of_lt_of_le hg1 hgr2.size
  obtain ⟨w3, hw3⟩ : ∃ w3, Hid (w2.alloc (.cells #[.string pk, .bool po, .bool pb, .slice As pl.length cs, .int .i64 pn, .slice At py.length ct] 31 : Obj) = w3) := ⟨_, rfl⟩
  have b3 : Below w2.heap.size w2 w3 := by rw [← hw3.out]; exact below_alloc (Below.refl _ _) _
  rw [hb1.out] at o1 l1
  have hS3 : Hid (WrapSt w g B b1 l (⟨⟨pk, po, pb, pl, pn⟩, py⟩ : Pu.PartD) (.slice As pl.length cs) (.slice At py.length ct) w3) := ⟨by rw [← hw3.out]; exact heap_new hB.out.symm, OwnL.below o1 b3 (Nat.le_refl _), OwnL.below l1 b3 (Nat.le_refl _), hc2.kept b3 hgs2, below_then (Below.grown b1W.out hgr2 b1W.out.size (fun k hk => by have := Option.some.inj hk; omega)) b3, _, row_on b3 (row_keep hgr2 Y1.out (by intro e; have := Option.some.inj e; omega)), ⟨_, _, _, _, _, _, _, _, _, _, rfl⟩⟩
  clear o1 l1 hc1 hc2 hgr2 b3 Y0 Y1 HV b1W hg0
  go_wp2_with fail
  rw [hw3.out]
  try simp only [hB.out]
  refine (l1Once_c _ _ _ _ hS3.out.cur (by omega)).mono ?_; rintro e w4 ⟨q, rfl, hc4, hgr4⟩
  have hS := hide (hS3.out.draw hgw hgb hbB hc4 hgr4)
  clear hS3 hc4 hgr4
  rcases q with _ | _
  · go_upto_region 5 with fail
    obtain ⟨G, hGdef⟩ : ∃ G : Nat → Value → World → Prop, G = (fun j v wx => match j with | 0 => (v = .agg #[.string pk, .bool po, .bool pb, .slice As pl.length cs, .int .i64 pn, .slice At py.length ct]) | 1 => (v = .pointer (some ⟨g, 0, none⟩)) | 2 => (∃ n9 : ByteArray, v = .string n9 ∧ n9.size ≤ 6) | 3 => (wx.heap[w.heap.size]? = some (.cells #[.string pk, .bool po, .bool pb, .slice As pl.length cs, .int .i64 pn, .slice At py.length ct] 31 (0, 0) : Obj)) | 4 => (∃ n9 : ByteArray, v = .string n9 ∧ n9.size ≤ 6) | _ => True) := ⟨_, rfl⟩
    have G0 : ∀ v wx, G 0 v wx = (v = .agg #[.string pk, .bool po, .bool pb, .slice As pl.length cs, .int .i64 pn, .slice At py.length ct]) := fun v wx => (congrFun (congrFun (congrFun hGdef 0) v) wx).trans rfl
    have G1 : ∀ v wx, G 1 v wx = (v = .pointer (some ⟨g, 0, none⟩)) := fun v wx => (congrFun (congrFun (congrFun hGdef 1) v) wx).trans rfl
    have G2 : ∀ v wx, G 2 v wx = (∃ n9 : ByteArray, v = .string n9 ∧ n9.size ≤ 6) := fun v wx => (congrFun (congrFun (congrFun hGdef 2) v) wx).trans rfl
    have G3 : ∀ v wx, G 3 v wx = (wx.heap[w.heap.size]? = some (.cells #[.string pk, .bool po, .bool pb, .slice As pl.length cs, .int .i64 pn, .slice At py.length ct] 31 (0, 0) : Obj)) := fun v wx => (congrFun (congrFun (congrFun hGdef 3) v) wx).trans rfl
    have G4 : ∀ v wx, G 4 v wx = (∃ n9 : ByteArray, v = .string n9 ∧ n9.size ≤ 6) := fun v wx => (congrFun (congrFun (congrFun hGdef 4) v) wx).trans rfl
    have Gn : ∀ j v wx, G (j + 5) v wx = True := fun j v wx => (congrFun (congrFun (congrFun hGdef _) v) wx).trans rfl
    clear hGdef
    have firm0 : ∀ j v, Firm [] (G j v) := by
      intro j v
      match j with
      | 0 => rw [show G 0 v = (fun wx => v = .agg #[.string pk, .bool po, .bool pb, .slice As pl.length cs, .int .i64 pn, .slice At py.length ct]) from funext (G0 v)]; exact firm_const _
      | 1 => rw [show G 1 v = (fun wx => v = .pointer (some ⟨g, 0, none⟩)) from funext (G1 v)]; exact firm_const _
      | 2 => rw [show G 2 v = (fun wx => ∃ n9 : ByteArray, v = .string n9 ∧ n9.size ≤ 6) from funext (G2 v)]; exact firm_const _
      | 3 => rw [show G 3 v = (fun wx => wx.heap[w.heap.size]? = some (.cells #[.string pk, .bool po, .bool pb, .slice As pl.length cs, .int .i64 pn, .slice At py.length ct] 31 (0, 0) : Obj)) from funext (G3 v)]; exact firm_row (by decide)
      | 4 => rw [show G 4 v = (fun wx => ∃ n9 : ByteArray, v = .string n9 ∧ n9.size ≤ 6) from funext (G4 v)]; exact firm_const _
      | j + 5 => rw [show G (j + 5) v = (fun wx => True) from funext (Gn j v)]; exact firm_const _
    have firm1 : ∀ j v, Firm [69] (G j v) := by
      intro j v
      match j with
      | 0 => rw [show G 0 v = (fun wx => v = .agg #[.string pk, .bool po, .bool pb, .slice As pl.length cs, .int .i64 pn, .slice At py.length ct]) from funext (G0 v)]; exact firm_const _
      | 1 => rw [show G 1 v = (fun wx => v = .pointer (some ⟨g, 0, none⟩)) from funext (G1 v)]; exact firm_const _
      | 2 => rw [show G 2 v = (fun wx => ∃ n9 : ByteArray, v = .string n9 ∧ n9.size ≤ 6) from funext (G2 v)]; exact firm_const _
      | 3 => rw [show G 3 v = (fun wx => wx.heap[w.heap.size]? = some (.cells #[.string pk, .bool po, .bool pb, .slice As pl.length cs, .int .i64 pn, .slice At py.length ct] 31 (0, 0) : Obj)) from funext (G3 v)]; exact firm_row (by decide)
      | 4 => rw [show G 4 v = (fun wx => ∃ n9 : ByteArray, v = .string n9 ∧ n9.size ≤ 6) from funext (G4 v)]; exact firm_const _
      | j + 5 => rw [show G (j + 5) v = (fun wx => True) from funext (Gn j v)]; exact firm_const _
    have firm2 : ∀ j v, j ≠ 3 → Firm [31] (G j v) := by
      intro j v
      match j with
      | 0 => intro h0; rw [show G 0 v = (fun wx => v = .agg #[.string pk, .bool po, .bool pb, .slice As pl.length cs, .int .i64 pn, .slice At py.length ct]) from funext (G0 v)]; exact firm_const _
      | 1 => intro h0; rw [show G 1 v = (fun wx => v = .pointer (some ⟨g, 0, none⟩)) from funext (G1 v)]; exact firm_const _
      | 2 => intro h0; rw [show G 2 v = (fun wx => ∃ n9 : ByteArray, v = .string n9 ∧ n9.size ≤ 6) from funext (G2 v)]; exact firm_const _
      | 3 => intro h0; exact absurd rfl h0
      | 4 => intro h0; rw [show G 4 v = (fun wx => ∃ n9 : ByteArray, v = .string n9 ∧ n9.size ≤ 6) from funext (G4 v)]; exact firm_const _
      | j + 5 => intro h0; rw [show G (j + 5) v = (fun wx => True) from funext (Gn j v)]; exact firm_const _
    refine wp_region_absG (WrapSt w g B b1 l (⟨⟨pk, po, pb, pl, pn⟩, py⟩ : Pu.PartD) (.slice As pl.length cs) (.slice At py.length ct)) [3, 17, 18, 19] (fun j => match j with | 0 => 17 | 1 => 18 | 2 => 19 | 3 => 17 | 4 => 3 | _ => 0) (fun j => match j with | 0 => [] | 1 => [] | 2 => [1] | 3 => [0] | 4 => [1, 2] | _ => []) G (fun j => match j with | 0 => [] | 1 => [] | 2 => [69] | 3 => [31] | 4 => [] | _ => []) 20 (by kernel_rfl) (by kernel_rfl) rfl (by decide) (hS.out.on (Below.refl _ _).drew) ?firm5 ?stp5 ?fin5
    case firm5 =>
      intro i j hj hnd v
      match i with
      | 0 => exact firm0 j v
      | 1 => exact firm0 j v
      | 2 => exact firm1 j v
      | 3 => exact firm2 j v hj
      | 4 => exact firm0 j v
      | i + 5 => exact firm0 j v
    case stp5 =>
      refine StepsFrom.cons ?op5_0 (StepsFrom.cons ?op5_1 (StepsFrom.cons ?op5_2 (StepsFrom.cons ?op5_3 (StepsFrom.cons ?op5_4 (StepsFrom.nil)))))
      case op5_0 =>
        intro vs wy b hin hout hb hdep K hK
        have t5 : b.tmps[5]? = some (.pointer (some ⟨B, 0, none⟩)) := (hout 5 (by decide)).trans rfl
        clear hin hout hdep
        replace hK : ∀ v w', (WrapSt w g B b1 l (⟨⟨pk, po, pb, pl, pn⟩, py⟩ : Pu.PartD) (.slice As pl.length cs) (.slice At py.length ct)) w' → Moved [] wy w' → (fun (v : Value) (wx : World) => v = .agg #[.string pk, .bool po, .bool pb, .slice As pl.length cs, .int .i64 pn, .slice At py.length ct]) v w' → K (b.put (some 17) v) w' := fun v w' q1 q2 q3 => hK v w' q1 q2 (Eq.mpr (G0 _ _) q3)
        refine ⟨wanted_plain rfl, ?_⟩
        have X9 := hide (show wy.heap[B]? = some (.cells #[.string pk, .bool po, .bool pb, .slice As pl.length cs, .int .i64 pn, .slice At py.length ct] 31 (0, 0) : Obj) from hb.row)
        obtain ⟨_, _, _, _, _, _, _⟩ := six_cells X9.out
        go_simp
        exact hK _ _ hb (moved_refl _) rfl
      case op5_1 =>
        intro vs wy b hin hout hb hdep K hK
        have t4 : b.tmps[4]? = some (.pointer (some ⟨g, 0, none⟩)) := (hout 4 (by decide)).trans rfl
        clear hin hout hdep
        replace hK : ∀ v w', (WrapSt w g B b1 l (⟨⟨pk, po, pb, pl, pn⟩, py⟩ : Pu.PartD) (.slice As pl.length cs) (.slice At py.length ct)) w' → Moved [] wy w' → (fun (v : Value) (wx : World) => v = .pointer (some ⟨g, 0, none⟩)) v w' → K (b.put (some 18) v) w' := fun v w' q1 q2 q3 => hK v w' q1 q2 (Eq.mpr (G1 _ _) q3)
        refine ⟨wanted_plain rfl, ?_⟩
        go_simp
        exact hK _ _ hb (moved_refl _) rfl
      case op5_2 =>
        intro vs wy b hin hout hb hdep K hK
        have h1 : (fun (v : Value) (wx : World) => v = .pointer (some ⟨g, 0, none⟩)) (vs 18) wy := by
          have h := hdep 1 (by decide)
          rw [G1] at h
          exact h
        dsimp only at h1
        have t18 := hin 18 (by decide)
        clear hin hout hdep
        replace hK : ∀ v w', (WrapSt w g B b1 l (⟨⟨pk, po, pb, pl, pn⟩, py⟩ : Pu.PartD) (.slice As pl.length cs) (.slice At py.length ct)) w' → Moved [69] wy w' → (fun (v : Value) (wx : World) => ∃ n9 : ByteArray, v = .string n9 ∧ n9.size ≤ 6) v w' → K (b.put (some 19) v) w' := fun v w' q1 q2 q3 => hK v w' q1 q2 (Eq.mpr (G2 _ _) q3)
        refine ⟨wanted_plain rfl, ?_⟩
        have e1 := h1
        go_simp
        refine (l4Name_c g l _ hb.cur hb.ltG).mono ?_
        rintro e wz ⟨n9, rfl, hn9, hc9, hgr9⟩
        exact hK _ _ (hb.draw hgw hgb hbB hc9 hgr9) (moved_draw hb.cur hc9 hgr9) ⟨n9, rfl, hn9⟩
      case op5_3 =>
        intro vs wy b hin hout hb hdep K hK
        have h0 : (fun (v : Value) (wx : World) => v = .agg #[.string pk, .bool po, .bool pb, .slice As pl.length cs, .int .i64 pn, .slice At py.length ct]) (vs 17) wy := by
          have h := hdep 0 (by decide)
          rw [G0] at h
          exact h
        dsimp only at h0
        have t17 := hin 17 (by decide)
        have t2 : b.tmps[2]? = some (.pointer (some ⟨w.heap.size, 0, none⟩)) := (hout 2 (by decide)).trans rfl
        clear hin hout hdep
        replace hK : ∀ v w', (WrapSt w g B b1 l (⟨⟨pk, po, pb, pl, pn⟩, py⟩ : Pu.PartD) (.slice As pl.length cs) (.slice At py.length ct)) w' → Moved [31] wy w' → (fun (v : Value) (wx : World) => wx.heap[w.heap.size]? = some (.cells #[.string pk, .bool po, .bool pb, .slice As pl.length cs, .int .i64 pn, .slice At py.length ct] 31 (0, 0) : Obj)) (vs 17) w' → K (b.put (none) v) w' := fun v w' q1 q2 q3 => hK v w' q1 q2 (Eq.mpr (G3 _ _) q3)
        refine ⟨wanted_plain rfl, ?_⟩
        have e0 := h0
        obtain ⟨cs9, hr9, hn9⟩ := hb.res
        have hn6 := hn9.six
        clear hn9
        obtain ⟨x0, x1, x2, x3, x4, x5, rfl⟩ := six_of hn6
        obtain ⟨_, _, _, _, _, _, _⟩ := six_cells hr9
        go_simp
        have hst := store6 (.string pk) (.bool po) (.bool pb) (.slice As pl.length cs) (.int .i64 pn) (.slice At py.length ct) hr9 hn6
        obtain ⟨_, _, _, _, _, hgr⟩ := id hst.2
        exact hK undef _ (hb.store hgw hgb hbB hst.1 ⟨_, _, _, _, _, _, _, _, _, _, rfl⟩ hgr) (.inr ⟨_, 31, by simp, hst.2⟩) hst.1
      case op5_4 =>
        intro vs wy b hin hout hb hdep K hK
        have h2 : (fun (v : Value) (wx : World) => ∃ n9 : ByteArray, v = .string n9 ∧ n9.size ≤ 6) (vs 19) wy := by
          have h := hdep 2 (by decide)
          rw [G2] at h
          exact h
        dsimp only at h2
        have t19 := hin 19 (by decide)
        clear hin hout hdep
        replace hK : ∀ v w', (WrapSt w g B b1 l (⟨⟨pk, po, pb, pl, pn⟩, py⟩ : Pu.PartD) (.slice As pl.length cs) (.slice At py.length ct)) w' → Moved [] wy w' → (fun (v : Value) (wx : World) => ∃ n9 : ByteArray, v = .string n9 ∧ n9.size ≤ 6) v w' → K (b.put (some 3) v) w' := fun v w' q1 q2 q3 => hK v w' q1 q2 (Eq.mpr (G4 _ _) q3)
        refine ⟨wanted_plain rfl, ?_⟩
        obtain ⟨n9, e4, hn9⟩ := h2
        go_simp
        exact hK _ _ hb (moved_refl _) ⟨n9, rfl, hn9⟩
    case fin5 =>
      intro vs wz b hin hbeq hb hall
      have f3 : (fun (v : Value) (wx : World) => wx.heap[w.heap.size]? = some (.cells #[.string pk, .bool po, .bool pb, .slice As pl.length cs, .int .i64 pn, .slice At py.length ct] 31 (0, 0) : Obj)) (vs 17) wz := by
        have h := hall 3 (by decide)
        rw [G3] at h
        exact h
      dsimp only at f3
      have f4 : (fun (v : Value) (wx : World) => ∃ n9 : ByteArray, v = .string n9 ∧ n9.size ≤ 6) (vs 3) wz := by
        have h := hall 4 (by decide)
        rw [G4] at h
        exact h
      dsimp only at f4
      clear hall hin
      subst hbeq
      simp only [actAt, slots, List.foldl_cons, List.foldl_nil, List.setIfInBounds_toArray, List.set_cons_zero, List.set_cons_succ]
      obtain ⟨n9, e9, hn9⟩ := f4
      have XR := hide f3
      clear f3
      obtain ⟨d0, d1, d2, d3, d4, d5, df⟩ := six_cells XR.out
      go_wp2
      refine bodyPost_ret (v := .tuple #[.agg #[.string pk, .bool po, .bool pb, .slice As pl.length cs, .int .i64 pn, .slice At py.length ct], .string n9]) (by simp [results, Try.results16, go_sem, d0, d1, d2, d3, d4, d5, e9]) rfl ?_
      exact ⟨(⟨⟨pk, po, pb, pl, pn⟩, py⟩ : Pu.PartD), _, _, n9, rfl, hb.cells.mono hwb, hb.lays.mono hwb, hD.out, hn9, hb.below⟩
  · go_upto_region 4 with fail
    obtain ⟨F, hF⟩ : ∃ F, Hid (Pu.faceAt (⟨⟨pk, po, pb, pl, pn⟩, py⟩ : Pu.PartD) py.length = F) := ⟨_, rfl⟩
    obtain ⟨G, hGdef⟩ : ∃ G : Nat → Value → World → Prop, G = (fun j v wx => match j with | 0 => (v = .agg #[.string pk, .bool po, .bool pb, .slice As pl.length cs, .int .i64 pn, .slice At py.length ct]) | 1 => (v = .pointer (some ⟨g, 0, none⟩)) | 2 => (v = .agg #[.string pk, .bool po, .bool pb, .slice As pl.length cs, .int .i64 pn, .slice At py.length ct]) | 3 => (v = .int .i64 F) | 4 => (∃ n9 : ByteArray, v = .string n9 ∧ n9.size ≤ 6) | 5 => (wx.heap[w.heap.size]? = some (.cells #[.string pk, .bool po, .bool pb, .slice As pl.length cs, .int .i64 pn, .slice At py.length ct] 31 (0, 0) : Obj)) | 6 => (∃ n9 : ByteArray, v = .string n9 ∧ n9.size ≤ 6) | _ => True) := ⟨_, rfl⟩
    have G0 : ∀ v wx, G 0 v wx = (v = .agg #[.string pk, .bool po, .bool pb, .slice As pl.length cs, .int .i64 pn, .slice At py.length ct]) := fun v wx => (congrFun (congrFun (congrFun hGdef 0) v) wx).trans rfl
    have G1 : ∀ v wx, G 1 v wx = (v = .pointer (some ⟨g, 0, none⟩)) := fun v wx => (congrFun (congrFun (congrFun hGdef 1) v) wx).trans rfl
    have G2 : ∀ v wx, G 2 v wx = (v = .agg #[.string pk, .bool po, .bool pb, .slice As pl.length cs, .int .i64 pn, .slice At py.length ct]) := fun v wx => (congrFun (congrFun (congrFun hGdef 2) v) wx).trans rfl
    have G3 : ∀ v wx, G 3 v wx = (v = .int .i64 F) := fun v wx => (congrFun (congrFun (congrFun hGdef 3) v) wx).trans rfl
    have G4 : ∀ v wx, G 4 v wx = (∃ n9 : ByteArray, v = .string n9 ∧ n9.size ≤ 6) := fun v wx => (congrFun (congrFun (congrFun hGdef 4) v) wx).trans rfl
    have G5 : ∀ v wx, G 5 v wx = (wx.heap[w.heap.size]? = some (.cells #[.string pk, .bool po, .bool pb, .slice As pl.length cs, .int .i64 pn, .slice At py.length ct] 31 (0, 0) : Obj)) := fun v wx => (congrFun (congrFun (congrFun hGdef 5) v) wx).trans rfl
    have G6 : ∀ v wx, G 6 v wx = (∃ n9 : ByteArray, v = .string n9 ∧ n9.size ≤ 6) := fun v wx => (congrFun (congrFun (congrFun hGdef 6) v) wx).trans rfl
    have Gn : ∀ j v wx, G (j + 7) v wx = True := fun j v wx => (congrFun (congrFun (congrFun hGdef _) v) wx).trans rfl
    clear hGdef
    have firm0 : ∀ j v, Firm [] (G j v) := by
      intro j v
      match j with
      | 0 => rw [show G 0 v = (fun wx => v = .agg #[.string pk, .bool po, .bool pb, .slice As pl.length cs, .int .i64 pn, .slice At py.length ct]) from funext (G0 v)]; exact firm_const _
      | 1 => rw [show G 1 v = (fun wx => v = .pointer (some ⟨g, 0, none⟩)) from funext (G1 v)]; exact firm_const _
      | 2 => rw [show G 2 v = (fun wx => v = .agg #[.string pk, .bool po, .bool pb, .slice As pl.length cs, .int .i64 pn, .slice At py.length ct]) from funext (G2 v)]; exact firm_const _
      | 3 => rw [show G 3 v = (fun wx => v = .int .i64 F) from funext (G3 v)]; exact firm_const _
      | 4 => rw [show G 4 v = (fun wx => ∃ n9 : ByteArray, v = .string n9 ∧ n9.size ≤ 6) from funext (G4 v)]; exact firm_const _
      | 5 => rw [show G 5 v = (fun wx => wx.heap[w.heap.size]? = some (.cells #[.string pk, .bool po, .bool pb, .slice As pl.length cs, .int .i64 pn, .slice At py.length ct] 31 (0, 0) : Obj)) from funext (G5 v)]; exact firm_row (by decide)
      | 6 => rw [show G 6 v = (fun wx => ∃ n9 : ByteArray, v = .string n9 ∧ n9.size ≤ 6) from funext (G6 v)]; exact firm_const _
      | j + 7 => rw [show G (j + 7) v = (fun wx => True) from funext (Gn j v)]; exact firm_const _
    have firm1 : ∀ j v, Firm [69] (G j v) := by
      intro j v
      match j with
      | 0 => rw [show G 0 v = (fun wx => v = .agg #[.string pk, .bool po, .bool pb, .slice As pl.length cs, .int .i64 pn, .slice At py.length ct]) from funext (G0 v)]; exact firm_const _
      | 1 => rw [show G 1 v = (fun wx => v = .pointer (some ⟨g, 0, none⟩)) from funext (G1 v)]; exact firm_const _
      | 2 => rw [show G 2 v = (fun wx => v = .agg #[.string pk, .bool po, .bool pb, .slice As pl.length cs, .int .i64 pn, .slice At py.length ct]) from funext (G2 v)]; exact firm_const _
      | 3 => rw [show G 3 v = (fun wx => v = .int .i64 F) from funext (G3 v)]; exact firm_const _
      | 4 => rw [show G 4 v = (fun wx => ∃ n9 : ByteArray, v = .string n9 ∧ n9.size ≤ 6) from funext (G4 v)]; exact firm_const _
      | 5 => rw [show G 5 v = (fun wx => wx.heap[w.heap.size]? = some (.cells #[.string pk, .bool po, .bool pb, .slice As pl.length cs, .int .i64 pn, .slice At py.length ct] 31 (0, 0) : Obj)) from funext (G5 v)]; exact firm_row (by decide)
      | 6 => rw [show G 6 v = (fun wx => ∃ n9 : ByteArray, v = .string n9 ∧ n9.size ≤ 6) from funext (G6 v)]; exact firm_const _
      | j + 7 => rw [show G (j + 7) v = (fun wx => True) from funext (Gn j v)]; exact firm_const _
    have firm2 : ∀ j v, j ≠ 5 → Firm [31] (G j v) := by
      intro j v
      match j with
      | 0 => intro h0; rw [show G 0 v = (fun wx => v = .agg #[.string pk, .bool po, .bool pb, .slice As pl.length cs, .int .i64 pn, .slice At py.length ct]) from funext (G0 v)]; exact firm_const _
      | 1 => intro h0; rw [show G 1 v = (fun wx => v = .pointer (some ⟨g, 0, none⟩)) from funext (G1 v)]; exact firm_const _
      | 2 => intro h0; rw [show G 2 v = (fun wx => v = .agg #[.string pk, .bool po, .bool pb, .slice As pl.length cs, .int .i64 pn, .slice At py.length ct]) from funext (G2 v)]; exact firm_const _
      | 3 => intro h0; rw [show G 3 v = (fun wx => v = .int .i64 F) from funext (G3 v)]; exact firm_const _
      | 4 => intro h0; rw [show G 4 v = (fun wx => ∃ n9 : ByteArray, v = .string n9 ∧ n9.size ≤ 6) from funext (G4 v)]; exact firm_const _
      | 5 => intro h0; exact absurd rfl h0
      | 6 => intro h0; rw [show G 6 v = (fun wx => ∃ n9 : ByteArray, v = .string n9 ∧ n9.size ≤ 6) from funext (G6 v)]; exact firm_const _
      | j + 7 => intro h0; rw [show G (j + 7) v = (fun wx => True) from funext (Gn j v)]; exact firm_const _
    refine wp_region_absG (WrapSt w g B b1 l (⟨⟨pk, po, pb, pl, pn⟩, py⟩ : Pu.PartD) (.slice As pl.length cs) (.slice At py.length ct)) [3, 12, 13, 14, 15, 16] (fun j => match j with | 0 => 12 | 1 => 13 | 2 => 14 | 3 => 15 | 4 => 16 | 5 => 12 | 6 => 3 | _ => 0) (fun j => match j with | 0 => [] | 1 => [] | 2 => [] | 3 => [2] | 4 => [1, 2, 3] | 5 => [0] | 6 => [1, 2, 3, 4] | _ => []) G (fun j => match j with | 0 => [] | 1 => [] | 2 => [] | 3 => [] | 4 => [69] | 5 => [31] | 6 => [] | _ => []) 20 (by kernel_rfl) (by kernel_rfl) rfl (by decide) (hS.out.on (Below.refl _ _).drew) ?firm4 ?stp4 ?fin4
    case firm4 =>
      intro i j hj hnd v
      match i with
      | 0 => exact firm0 j v
      | 1 => exact firm0 j v
      | 2 => exact firm0 j v
      | 3 => exact firm0 j v
      | 4 => exact firm1 j v
      | 5 => exact firm2 j v hj
      | 6 => exact firm0 j v
      | i + 7 => exact firm0 j v
    case stp4 =>
      refine StepsFrom.cons ?op4_0 (StepsFrom.cons ?op4_1 (StepsFrom.cons ?op4_2 (StepsFrom.cons ?op4_3 (StepsFrom.cons ?op4_4 (StepsFrom.cons ?op4_5 (StepsFrom.cons ?op4_6 (StepsFrom.nil)))))))
      case op4_0 =>
        intro vs wy b hin hout hb hdep K hK
        have t5 : b.tmps[5]? = some (.pointer (some ⟨B, 0, none⟩)) := (hout 5 (by decide)).trans rfl
        clear hin hout hdep
        replace hK : ∀ v w', (WrapSt w g B b1 l (⟨⟨pk, po, pb, pl, pn⟩, py⟩ : Pu.PartD) (.slice As pl.length cs) (.slice At py.length ct)) w' → Moved [] wy w' → (fun (v : Value) (wx : World) => v = .agg #[.string pk, .bool po, .bool pb, .slice As pl.length cs, .int .i64 pn, .slice At py.length ct]) v w' → K (b.put (some 12) v) w' := fun v w' q1 q2 q3 => hK v w' q1 q2 (Eq.mpr (G0 _ _) q3)
        refine ⟨wanted_plain rfl, ?_⟩
        have X9 := hide (show wy.heap[B]? = some (.cells #[.string pk, .bool po, .bool pb, .slice As pl.length cs, .int .i64 pn, .slice At py.length ct] 31 (0, 0) : Obj) from hb.row)
        obtain ⟨_, _, _, _, _, _, _⟩ := six_cells X9.out
        go_simp
        exact hK _ _ hb (moved_refl _) rfl
      case op4_1 =>
        intro vs wy b hin hout hb hdep K hK
        have t4 : b.tmps[4]? = some (.pointer (some ⟨g, 0, none⟩)) := (hout 4 (by decide)).trans rfl
        clear hin hout hdep
        replace hK : ∀ v w', (WrapSt w g B b1 l (⟨⟨pk, po, pb, pl, pn⟩, py⟩ : Pu.PartD) (.slice As pl.length cs) (.slice At py.length ct)) w' → Moved [] wy w' → (fun (v : Value) (wx : World) => v = .pointer (some ⟨g, 0, none⟩)) v w' → K (b.put (some 13) v) w' := fun v w' q1 q2 q3 => hK v w' q1 q2 (Eq.mpr (G1 _ _) q3)
        refine ⟨wanted_plain rfl, ?_⟩
        go_simp
        exact hK _ _ hb (moved_refl _) rfl
      case op4_2 =>
        intro vs wy b hin hout hb hdep K hK
        have t5 : b.tmps[5]? = some (.pointer (some ⟨B, 0, none⟩)) := (hout 5 (by decide)).trans rfl
        clear hin hout hdep
        replace hK : ∀ v w', (WrapSt w g B b1 l (⟨⟨pk, po, pb, pl, pn⟩, py⟩ : Pu.PartD) (.slice As pl.length cs) (.slice At py.length ct)) w' → Moved [] wy w' → (fun (v : Value) (wx : World) => v = .agg #[.string pk, .bool po, .bool pb, .slice As pl.length cs, .int .i64 pn, .slice At py.length ct]) v w' → K (b.put (some 14) v) w' := fun v w' q1 q2 q3 => hK v w' q1 q2 (Eq.mpr (G2 _ _) q3)
        refine ⟨wanted_plain rfl, ?_⟩
        have X9 := hide (show wy.heap[B]? = some (.cells #[.string pk, .bool po, .bool pb, .slice As pl.length cs, .int .i64 pn, .slice At py.length ct] 31 (0, 0) : Obj) from hb.row)
        obtain ⟨_, _, _, _, _, _, _⟩ := six_cells X9.out
        go_simp
        exact hK _ _ hb (moved_refl _) rfl
      case op4_3 =>
        intro vs wy b hin hout hb hdep K hK
        have h2 : (fun (v : Value) (wx : World) => v = .agg #[.string pk, .bool po, .bool pb, .slice As pl.length cs, .int .i64 pn, .slice At py.length ct]) (vs 14) wy := by
          have h := hdep 2 (by decide)
          rw [G2] at h
          exact h
        dsimp only at h2
        have t14 := hin 14 (by decide)
        clear hin hout hdep
        replace hK : ∀ v w', (WrapSt w g B b1 l (⟨⟨pk, po, pb, pl, pn⟩, py⟩ : Pu.PartD) (.slice As pl.length cs) (.slice At py.length ct)) w' → Moved [] wy w' → (fun (v : Value) (wx : World) => v = .int .i64 F) v w' → K (b.put (some 15) v) w' := fun v w' q1 q2 q3 => hK v w' q1 q2 (Eq.mpr (G3 _ _) q3)
        refine ⟨wanted_plain rfl, ?_⟩
        have e2 := h2
        go_simp
        refine (sFaceOf_c (⟨⟨pk, po, pb, pl, pn⟩, py⟩ : Pu.PartD) (.slice As pl.length cs) (.slice At py.length ct) _ (OwnL.rd (fun _ => rfl) hb.lays)).mono ?_
        rintro e wz ⟨rfl, bT⟩
        rw [hF.out]
        exact hK _ _ (hb.on bT) (.inl bT) rfl
      case op4_4 =>
        intro vs wy b hin hout hb hdep K hK
        have h1 : (fun (v : Value) (wx : World) => v = .pointer (some ⟨g, 0, none⟩)) (vs 13) wy := by
          have h := hdep 1 (by decide)
          rw [G1] at h
          exact h
        dsimp only at h1
        have h3 : (fun (v : Value) (wx : World) => v = .int .i64 F) (vs 15) wy := by
          have h := hdep 3 (by decide)
          rw [G3] at h
          exact h
        dsimp only at h3
        have t13 := hin 13 (by decide)
        have t15 := hin 15 (by decide)
        clear hin hout hdep
        replace hK : ∀ v w', (WrapSt w g B b1 l (⟨⟨pk, po, pb, pl, pn⟩, py⟩ : Pu.PartD) (.slice As pl.length cs) (.slice At py.length ct)) w' → Moved [69] wy w' → (fun (v : Value) (wx : World) => ∃ n9 : ByteArray, v = .string n9 ∧ n9.size ≤ 6) v w' → K (b.put (some 16) v) w' := fun v w' q1 q2 q3 => hK v w' q1 q2 (Eq.mpr (G4 _ _) q3)
        refine ⟨wanted_plain rfl, ?_⟩
        have e1 := h1
        have e3 := h3
        go_simp
        refine (l4Fitting_c g l F _ hb.cur hb.ltG).mono ?_
        rintro e wz ⟨n9, rfl, hn9, hc9, hgr9⟩
        exact hK _ _ (hb.draw hgw hgb hbB hc9 hgr9) (moved_draw hb.cur hc9 hgr9) ⟨n9, rfl, hn9⟩
      case op4_5 =>
        intro vs wy b hin hout hb hdep K hK
        have h0 : (fun (v : Value) (wx : World) => v = .agg #[.string pk, .bool po, .bool pb, .slice As pl.length cs, .int .i64 pn, .slice At py.length ct]) (vs 12) wy := by
          have h := hdep 0 (by decide)
          rw [G0] at h
          exact h
        dsimp only at h0
        have t12 := hin 12 (by decide)
        have t2 : b.tmps[2]? = some (.pointer (some ⟨w.heap.size, 0, none⟩)) := (hout 2 (by decide)).trans rfl
        clear hin hout hdep
        replace hK : ∀ v w', (WrapSt w g B b1 l (⟨⟨pk, po, pb, pl, pn⟩, py⟩ : Pu.PartD) (.slice As pl.length cs) (.slice At py.length ct)) w' → Moved [31] wy w' → (fun (v : Value) (wx : World) => wx.heap[w.heap.size]? = some (.cells #[.string pk, .bool po, .bool pb, .slice As pl.length cs, .int .i64 pn, .slice At py.length ct] 31 (0, 0) : Obj)) (vs 12) w' → K (b.put (none) v) w' := fun v w' q1 q2 q3 => hK v w' q1 q2 (Eq.mpr (G5 _ _) q3)
        refine ⟨wanted_plain rfl, ?_⟩
        have e0 := h0
        obtain ⟨cs9, hr9, hn9⟩ := hb.res
        have hn6 := hn9.six
        clear hn9
        obtain ⟨x0, x1, x2, x3, x4, x5, rfl⟩ := six_of hn6
        obtain ⟨_, _, _, _, _, _, _⟩ := six_cells hr9
        go_simp
        have hst := store6 (.string pk) (.bool po) (.bool pb) (.slice As pl.length cs) (.int .i64 pn) (.slice At py.length ct) hr9 hn6
        obtain ⟨_, _, _, _, _, hgr⟩ := id hst.2
        exact hK undef _ (hb.store hgw hgb hbB hst.1 ⟨_, _, _, _, _, _, _, _, _, _, rfl⟩ hgr) (.inr ⟨_, 31, by simp, hst.2⟩) hst.1
      case op4_6 =>
        intro vs wy b hin hout hb hdep K hK
        have h4 : (fun (v : Value) (wx : World) => ∃ n9 : ByteArray, v = .string n9 ∧ n9.size ≤ 6) (vs 16) wy := by
          have h := hdep 4 (by decide)
          rw [G4] at h
          exact h
        dsimp only at h4
        have t16 := hin 16 (by decide)
        clear hin hout hdep
        replace hK : ∀ v w', (WrapSt w g B b1 l (⟨⟨pk, po, pb, pl, pn⟩, py⟩ : Pu.PartD) (.slice As pl.length cs) (.slice At py.length ct)) w' → Moved [] wy w' → (fun (v : Value) (wx : World) => ∃ n9 : ByteArray, v = .string n9 ∧ n9.size ≤ 6) v w' → K (b.put (some 3) v) w' := fun v w' q1 q2 q3 => hK v w' q1 q2 (Eq.mpr (G6 _ _) q3)
        refine ⟨wanted_plain rfl, ?_⟩
        obtain ⟨n9, e4, hn9⟩ := h4
        go_simp
        exact hK _ _ hb (moved_refl _) ⟨n9, rfl, hn9⟩
    case fin4 =>
      intro vs wz b hin hbeq hb hall
      have f5 : (fun (v : Value) (wx : World) => wx.heap[w.heap.size]? = some (.cells #[.string pk, .bool po, .bool pb, .slice As pl.length cs, .int .i64 pn, .slice At py.length ct] 31 (0, 0) : Obj)) (vs 12) wz := by
        have h := hall 5 (by decide)
        rw [G5] at h
        exact h
      dsimp only at f5
      have f6 : (fun (v : Value) (wx : World) => ∃ n9 : ByteArray, v = .string n9 ∧ n9.size ≤ 6) (vs 3) wz := by
        have h := hall 6 (by decide)
        rw [G6] at h
        exact h
      dsimp only at f6
      clear hall hin
      subst hbeq
      simp only [actAt, slots, List.foldl_cons, List.foldl_nil, List.setIfInBounds_toArray, List.set_cons_zero, List.set_cons_succ]
      obtain ⟨n9, e9, hn9⟩ := f6
      have XR := hide f5
      clear f5
      obtain ⟨d0, d1, d2, d3, d4, d5, df⟩ := six_cells XR.out
      go_wp2
      refine bodyPost_ret (v := .tuple #[.agg #[.string pk, .bool po, .bool pb, .slice As pl.length cs, .int .i64 pn, .slice At py.length ct], .string n9]) (by simp [results, Try.results16, go_sem, d0, d1, d2, d3, d4, d5, e9]) rfl ?_
      exact ⟨(⟨⟨pk, po, pb, pl, pn⟩, py⟩ : Pu.PartD), _, _, n9, rfl, hb.cells.mono hwb, hb.lays.mono hwb, hD.out, hn9, hb.below⟩
end Go.Proofs.Ytnabpefjcgehiaa
