/- Merged texts of this repo: IKeepPre, Part, Recipe, CopyPart, PartFace, NewCore, Part3. -/
import Derived.Test.YtnabpefjcgehiaaCoreKeep
import Derived.Test.YtnabpefjcgehiaaCore2
import Derived.Test.YtnabpefjcgehiaaM0
import Derived.Lib.SmallJoins
import Derived.Test.YtnabpefjcgehiaaCopy
import Derived.Test.YtnabpefjcgehiaaM1
import Derived.Deep.RegionHeld3
import Derived.Test.YtnabpefjcgehiaaLay
/- Contracts: what the reference's calls do to a core (appending; parts of slices). Written by wip/tools/keepgen.py. -/
namespace Go.Proofs.Ytnabpefjcgehiaa
open Go.ChangeShapes Go.WideShapes Go.ChangeAt Go.RowKit
set_option maxRecDepth 100000
set_option linter.unusedVariables false
section
variable {P : Program}
theorem run_app {α : Type} (wr : World) (t ty : TypeId) (base : Nat) (e : TypeId) (i : TypeInfo) (z : Value) (size bytes : Nat)
    (ht : P.underlying t = some (.slice e)) (hi : P.info? e = some i) (hz : i.zero = some z) (hsize : i.size = size) (hby : i.bytes = bytes) (hzs : z.cells.size = size) (hsz : 0 < size)
    (en : α → List Value) (hen : ∀ x, (en x).length = size) (hone : ∀ x, ∀ u ∈ en x, u.oneCell' = true) (v0 vx : Value) (l0 l : List α) (hown : OwnL wr base e size en v0 l0) (hr : RdL wr size en vx l)
    (hb : base ≤ wr.heap.size) (hl : l0.length + l.length ≤ 1099511627776) (hbytes : bytes ≤ 64) :
    ∃ v' w', (Builtin.append_ #[t, t] ty #[v0, vx]).run P wr = .ok v' w' ∧ OwnL w' base e size en v' (l0 ++ l) ∧ wr.grownBy w' v0.ownBlock := by
  obtain ⟨A, c, rfl, hlc, hcm, hrd⟩ := hr
  have hown0 : wr.ownsRow base e size v0 l0.length (l0.flatMap en) := hown
  have hbt : (l0.length + l.length) * bytes ≤ 140737488355328 := by
    calc (l0.length + l.length) * bytes ≤ 1099511627776 * 64 := Nat.mul_le_mul (by omega) hbytes
      _ ≤ 140737488355328 := by decide
  rcases A with _ | ad
  · have hl0 : l = [] := by
      rcases l with _ | ⟨y, r⟩
      · rfl
      · obtain ⟨_, _, hA, _⟩ := hrd (by simp); cases hA
    subst hl0
    obtain ⟨ao, n, cap, rfl, hn⟩ : ∃ ao n cap, v0 = .slice ao n cap ∧ n ≤ cap := by
      rcases hown0.2 with ⟨rfl, _⟩ | ⟨g, cap, cur, rfl, _, _, hnc, _⟩
      · exact ⟨none, 0, 0, rfl, Nat.le_refl _⟩
      · exact ⟨_, _, cap, rfl, hnc⟩
    exact ⟨_, _, run_append_none (P := P) wr t ty e i ht hi ao n cap c hn, by simpa using hown, grown_refl _ _⟩
  · obtain ⟨v', w', hrun, ho, hg, _, _⟩ := Go.run_append_own_at (P := P) wr base t ty e i z size bytes ht hi hz hsize hby hzs hsz v0 l0.length (l0.flatMap en) hown0 ad l.length c (l.flatMap en) (flat_len hen l) (by
      intro j u hj
      have hl0 : 0 < l.length := by
        rcases l with _ | ⟨y, r⟩
        · simp at hj
        · simp
      obtain ⟨g, o', hA, hg, hc⟩ := hrd hl0
      cases hA
      have e1 : (⟨g, o', none⟩ : Addr).add j = ⟨g, o' + j, none⟩ := by unfold Addr.add; split <;> simp_all
      rw [e1]
      have := flat_read (w := wr) (g := g) (o := o') hen hsz (l := l) (k := 0) (fun i x hx j u hu => by simpa using hc i x hx j u hu) hj
      simpa using this) (by
      intro u hu
      obtain ⟨y, _, hy⟩ := List.mem_flatMap.1 hu
      exact hone y u hy) (by unfold maxLen; omega) hbt hb
    exact ⟨v', w', hrun, OwnL.app ho, hg⟩
/-- 'append(out, xs...)' at a step of a region that draws its order -/
theorem step_app {α : Type} {ops : Array Oper} {o : Oper} {a : Act} {K : Act → World → Prop} {Q : Exit → Act → World → Prop} {E : Prop} {wr : World} (hgd : o.guard = none) (s x : Operand) (t : TypeId)
    (ho : o.op = .call { callee := .builtin .append, args := #[s, x], argTypes := #[t, t] }) (base : Nat) (e : TypeId) (i : TypeInfo) (z : Value) (size bytes : Nat)
    (ht : P.underlying t = some (.slice e)) (hi : P.info? e = some i) (hz : i.zero = some z) (hsize : i.size = size) (hby : i.bytes = bytes) (hzs : z.cells.size = size) (hsz : 0 < size)
    (en : α → List Value) (hen : ∀ x, (en x).length = size) (hone : ∀ x, ∀ u ∈ en x, u.oneCell' = true) (v0 vx : Value) (l0 l : List α) (hs : a.eval s = v0) (hown : OwnL wr base e size en v0 l0) (hx : a.eval x = vx) (hr : RdL wr size en vx l)
    (hb : base ≤ wr.heap.size) (hl : l0.length + l.length ≤ 1099511627776) (hbytes : bytes ≤ 64)
    (h : ∀ v' w', OwnL w' base e size en v' (l0 ++ l) → wr.grownBy w' v0.ownBlock → K (a.put o.dst v') w') :
    if Region.wanted o (yielded ops a.tmps) = true then Oper.wp P o a wr K Q else E := by
  have hw : Region.wanted o (yielded ops a.tmps) = true := by simp [Region.wanted, hgd]
  rw [if_pos hw]
  obtain ⟨v', w', hrun, h2, h3⟩ := run_app (P := P) wr t o.type base e i z size bytes ht hi hz hsize hby hzs hsz en hen hone v0 vx l0 l hown hr hb hl hbytes
  unfold Oper.wp execOp
  simp only [ho, resolve, invoke, builtin, Sem.run_bind, Sem.run_pure, Result.andThen_ok, List.map_toArray, List.map_cons, List.map_nil, hs, hx, hrun]
  exact h v' w' h2 h3
end
/-- parts of a readable slice -/
theorem rd_low {α : Type} {w : World} {size : Nat} {en : α → List Value} {A : Option Addr} {n c : Nat} {l : List α} (h : RdL w size en (.slice A n c) l) {b : Nat} (hb : b ≤ n) : RdL w size en (.slice A b c) (l.take b) := by
  obtain ⟨A', c', e, h1, h2, h3⟩ := h
  cases e
  have hl : (l.take b).length = b := by rw [List.length_take]; omega
  refine ⟨A, c, by rw [hl], by omega, by omega, fun hp => ?_⟩
  obtain ⟨g', o', e', hgs, hc⟩ := h3 (by omega)
  refine ⟨g', o', e', hgs, fun i x hx j u hu => ?_⟩
  rw [List.getElem?_take] at hx
  split at hx
  · exact hc i x hx j u hu
  · cases hx
theorem rd_high {α : Type} {w : World} {size : Nat} {en : α → List Value} {g o n c : Nat} {l : List α} (h : RdL w size en (.slice (some ⟨g, o, none⟩) n c) l) {b : Nat} (hb : b ≤ n) : RdL w size en (.slice (some ⟨g, o + b * size, none⟩) (n - b) (c - b)) (l.drop b) := by
  obtain ⟨A', c', e, h1, h2, h3⟩ := h
  cases e
  have hl : (l.drop b).length = l.length - b := by rw [List.length_drop]
  refine ⟨some ⟨g, o + b * size, none⟩, c - b, by rw [hl], by omega, by omega, fun hp => ?_⟩
  obtain ⟨g', o', e', hgs, hc⟩ := h3 (by omega)
  cases e'
  refine ⟨g, o + b * size, rfl, hgs, fun i x hx j u hu => ?_⟩
  rw [List.getElem?_drop] at hx
  have := hc (b + i) x hx j u hu
  rwa [show o + (b + i) * size + j = o + b * size + i * size + j by rw [Nat.add_mul]; omega] at this
theorem rd_cell1 {w : World} (y : Pu.CellD) : RdL (w.alloc (.cells (cellEn y).toArray 74 : Obj)) 2 cellEn (.slice (some ⟨w.heap.size, 0, none⟩) 1 1) [y] := by
  refine ⟨_, 1, rfl, Nat.le_refl _, by decide, fun _ => ⟨w.heap.size, 0, rfl, by simp, fun i x hx j u hu => ?_⟩⟩
  rcases i with _ | i
  · have e : y = x := by simpa using hx
    subst e
    rw [cell_of_row _ w.heap.size _ _ _ (0, 0) (heap_new rfl)]
    simpa using hu
  · simp at hx
theorem rd_empty {α : Type} {w : World} {size : Nat} {en : α → List Value} (A : Option Addr) (n c : Nat) (_u : Unit) (hn : n = 0) (hc : c ≤ maxLen) : RdL w size en (.slice A n c) ([] : List α) := by
  subst hn
  exact ⟨A, c, rfl, Nat.zero_le _, hc, fun h => absurd h (by simp)⟩
/-- but for block G and the row of the slice, what was there stays -/
def Only (G : Nat) (r : Option Nat) (w w' : World) : Prop := ∀ g, g < w.heap.size → g ≠ G → some g ≠ r → w'.heap[g]? = w.heap[g]?
theorem only_below {G : Nat} {r : Option Nat} {w w' : World} (h : Below w.heap.size w w') : Only G r w w' := fun g hg _ _ => h.block g hg
theorem only_set {G : Nat} {r : Option Nat} {w w' : World} (h : Only G r w w') {a : Addr} (ha : a.block = G ∨ some a.block = r ∨ w.heap.size ≤ a.block) (u : Value) : Only G r w (w'.setCell a u) := by
  intro g hg h1 h2
  have hne : g ≠ a.block := by
    intro e
    rcases ha with ha | ha | ha
    · exact h1 (e.trans ha)
    · exact h2 (by rw [e]; exact ha)
    · omega
  exact (Below.heap_setCell w' a u g hne).trans (h g hg h1 h2)
theorem own_eq {α : Type} {w : World} {base : Nat} {e : TypeId} {size : Nat} {en : α → List Value} {v : Value} {l l' : List α} (h : OwnL w base e size en v l) (he : l = l') : OwnL w base e size en v l' := he ▸ h
theorem below_none {w w' : World} {row : Option Nat} (h : w.grownBy w' row) (hr : row = none) : Below w.heap.size w w' := by
  subst hr
  exact ⟨h.os, h.tape, h.output, h.size, fun k hk => h.block k hk (by simp)⟩
end Go.Proofs.Ytnabpefjcgehiaa
/- Contracts: parts. -/
namespace Go.Proofs.Ytnabpefjcgehiaa
open Go.ChangeShapes Go.WideShapes Go.ChangeAt Go.RowKit
set_option maxRecDepth 100000
def Pu.totCore (p : Pu.CoreD) : Nat := p.kind.size + p.cells.length + Pu.tot (p.cells.map (·.key))
def Pu.totPart (p : Pu.PartD) : Nat := Pu.totCore p.core + p.layers.length + Pu.tot (p.layers.map (·.name))
def Pu.szPart (p : Pu.PartD) (left : Int) : Int := if (Pu.totPart p : Int) ≤ left then left - Pu.totPart p else -1
def partV (p : Pu.PartD) (s t : Value) : Value := .agg #[.string p.core.kind, .bool p.core.on, .bool p.core.broken, s, .int .i64 p.core.count, t]
def RdPart (w : World) (v : Value) (p : Pu.PartD) : Prop := CoreD.wf p.core ∧ ∃ s t, v = partV p s t ∧ RdCells w s p.core.cells ∧ RdLayers w t p.layers
theorem six_cells {W : World} {g : Nat} {t : TypeId} {a b c d e f : Value} (h : W.heap[g]? = some (.cells #[a, b, c, d, e, f] t (0, 0))) :
    W.cell? ⟨g, 0, none⟩ = some a ∧ W.cell? ⟨g, 1, none⟩ = some b ∧ W.cell? ⟨g, 2, none⟩ = some c ∧ W.cell? ⟨g, 3, none⟩ = some d ∧ W.cell? ⟨g, 4, none⟩ = some e ∧ W.cell? ⟨g, 5, none⟩ = some f ∧ ∀ j, W.frozen? ⟨g, j, none⟩ = false :=
  ⟨cell_of_row W g 0 _ t (0, 0) h, cell_of_row W g 1 _ t (0, 0) h, cell_of_row W g 2 _ t (0, 0) h, cell_of_row W g 3 _ t (0, 0) h, cell_of_row W g 4 _ t (0, 0) h, cell_of_row W g 5 _ t (0, 0) h, fun j => frozen_of_row W g j _ t h⟩
def Pu.partKey (p : Pu.PartD) : (List UInt8 × Bool × Bool × List (List UInt8 × Int) × Int) × List (List UInt8 × Int) := (Pu.coreKey p.core, p.layers.map (fun c => (c.name.toList, c.count)))
end Go.Proofs.Ytnabpefjcgehiaa
/- Contracts: RecipeOf. -/
namespace Go.Proofs.Ytnabpefjcgehiaa
open Go.ChangeShapes Go.WideShapes Go.ChangeAt Go.RowKit
set_option maxRecDepth 100000
def Pu.recipe (p : Pu.PartD) : List ByteArray := p.core.kind :: p.layers.map (·.name)
theorem Pu.recipe_take {p : Pu.PartD} {k : Nat} {x : Pu.LayerD} (h : p.layers[k]? = some x) : p.core.kind :: ((p.layers.take (k + 1)).map (·.name)) = (p.core.kind :: ((p.layers.take k).map (·.name))) ++ [x.name] := by
  rw [List.take_add_one, h]; simp
theorem one_str (n : ByteArray) : ∀ u ∈ [Value.string n], u.oneCell' = true := by simp [Value.oneCell']
/-- a new row that the call laid whole -/
theorem own_madeR {α : Type} {w : World} {e : TypeId} {size : Nat} {en : α → List Value} (l : List α) {n : Nat} (hn : n = l.length) (hs : ∀ x, (en x).length = size) (hm : n ≤ maxLen) :
    OwnL (w.alloc (.cells (l.flatMap en).toArray e)) w.heap.size e size en (.slice (some ⟨w.heap.size, 0, none⟩) n n) l := by
  subst hn
  have hfl := flat_len hs l
  refine ⟨hfl, .inr ⟨w.heap.size, l.length, (l.flatMap en).toArray, rfl, Nat.le_refl _, heap_alloc_new w _, Nat.le_refl _, hm, by simpa using hfl, ?_⟩⟩
  rw [← hfl]
  exact List.take_length
set_option maxHeartbeats 400000 in
theorem iRecipeOf_c (p : Pu.PartD) (s t : Value) (w : World) (ht : RdL w 2 layerEn t p.layers) (hl : p.layers.length ≤ 16777216) :
    Calls Try.prog 12 #[partV p s t] w fun e w' => ∃ v, e = .returned v ∧ OwnL w' w.heap.size 9 1 strEn v (Pu.recipe p) ∧ Below w.heap.size w w' := by
  unfold partV
  obtain ⟨A, c, rfl, hlc, hcm, hA⟩ := ht.open_
  have HA := hide hA
  clear hA ht
  obtain ⟨i0, hi, hz0, hz1, hz2⟩ := info_parts info_str
  go_enter Try.func12, Try.ntmps12
  go_wp2
  go_loopw [3, 13] (fun v i wr => ∃ k : Nat, k ≤ p.layers.length ∧ i = .int .i64 k ∧ OwnL wr w.heap.size 9 1 strEn v (p.core.kind :: ((p.layers.take k).map (·.name))) ∧ Below w.heap.size w wr) (fun _ i _ => p.layers.length - (intOf i).toNat)
  case atStart => exact ⟨0, by omega, rfl, OwnL.mono (by have h := own_madeR (w := w.alloc (.cells #[.string p.core.kind, .bool p.core.on, .bool p.core.broken, s, .int .i64 p.core.count, .slice A p.layers.length c] 31)) (e := 9) (en := strEn) [p.core.kind] (n := 1) rfl (fun _ => rfl) (by decide); rw [show (w.alloc (.cells #[.string p.core.kind, .bool p.core.on, .bool p.core.broken, s, .int .i64 p.core.count, .slice A p.layers.length c] 31)).heap.size = w.heap.size + 1 by simp] at h; exact h) (by omega), below_alloc (below_alloc (Below.refl _ _) _) _⟩
  case round =>
    obtain ⟨k, hk, rfl, hown, hb⟩ := hrel
    by_cases hlt : k < p.layers.length
    · obtain ⟨g, o, rfl, hg, HC⟩ := HA.out.at_ (by omega)
      obtain ⟨x, HX, h0, h1⟩ := layer_get HC hb hlt
      have hb2 : Below w.heap.size w (wr.alloc (.cells #[.string x.name, .int .i64 x.count] 57)) := below_alloc hb _
      have hown2 := OwnL.below hown (below_alloc (Below.refl _ _) (.cells #[.string x.name, .int .i64 x.count] 57)) (Nat.le_refl _)
      have hsz : (wr.alloc (.cells #[.string x.name, .int .i64 x.count] 57)).heap.size = wr.heap.size + 1 := by simp
      have hll : (p.core.kind :: ((p.layers.take k).map (·.name))).length < 1099511627776 := by simp; omega
      go_wp2_with (at_builtin; go_must (refine push_law rfl _ _ 24 (by exact rfl) w.heap.size 9 i0 (.string ByteArray.empty) 1 16 Try.underlying24 hi hz0 hz1 hz2 rfl (by decide) strEn _ _ x.name (by exact rfl) hown2 (by rw [hsz]; exact rfl) rfl (one_str _) hb2 (Nat.le_refl _) hb2.size hll (by decide) ?_); intro v1 w1 hown1 hg1 hb1)
      rw [← Pu.recipe_take HX.out] at hown1
      go_wp2
      go_roundw
      case rel => exact ⟨k + 1, by omega, by go_num, hown1, hb1⟩
      case measure => simp [intOf]; omega
    · obtain rfl : k = p.layers.length := by omega
      go_wp2
      go_ret
      rw [List.take_length] at hown
      exact ⟨_, rfl, hown, hb⟩
end Go.Proofs.Ytnabpefjcgehiaa
/- Contracts: copies of cores and parts. -/
namespace Go.Proofs.Ytnabpefjcgehiaa
open Go.ChangeShapes Go.WideShapes Go.ChangeAt Go.RowKit
set_option maxRecDepth 100000
theorem below_row {w w' : World} {g : Nat} {o : Obj} (hb : Below w.heap.size w w') (h : w.heap[g]? = some o) : w'.heap[g]? = some o :=
  (hb.block g (Array.getElem?_eq_some_iff.1 h).1).trans h
theorem grown_row {w w' : World} {g : Nat} {o : Obj} {row : Option Nat} (hb : w.grownBy w' row) (hne : some g ≠ row) (h : w.heap[g]? = some o) : w'.heap[g]? = some o :=
  (hb.block g (Array.getElem?_eq_some_iff.1 h).1 hne).trans h
set_option maxHeartbeats 4000000 in
theorem iCopyPart_c (p : Pu.PartD) (s t : Value) (w : World) (hs : RdL w 2 cellEn s p.core.cells) (ht : RdL w 2 layerEn t p.layers) (hl : p.core.cells.length ≤ 16777216) (hl' : p.layers.length ≤ 16777216) :
    Calls Try.prog 35 #[partV p s t] w fun e w' => ∃ s' t', e = .returned (partV p s' t') ∧ OwnL w' w.heap.size 74 2 cellEn s' p.core.cells ∧ OwnL w' w.heap.size 57 2 layerEn t' p.layers ∧ (s'.ownBlock = none ∨ s'.ownBlock ≠ t'.ownBlock) ∧ Below w.heap.size w w' := by
  obtain ⟨i0, hi, hz0, hz1, hz2⟩ := info_parts info_layer
  unfold partV
  go_enter Try.func35, Try.ntmps35
  obtain ⟨w0, hw0⟩ : ∃ w0, Hid ((w.alloc (.cells #[.string p.core.kind, .bool p.core.on, .bool p.core.broken, s, .int .i64 p.core.count, t] 31 : Obj)).alloc (.cells #[.string ⟨#[]⟩, .bool false, .bool false, .slice none 0 0, .int .i64 0, .slice none 0 0] 31 : Obj) = w0) := ⟨_, rfl⟩
  have b0 : Below w.heap.size w w0 := by rw [← hw0.out]; exact below_alloc (below_alloc (Below.refl _ _) _) _
  have Y0 := hide (show w0.heap[w.heap.size]? = some (.cells #[.string p.core.kind, .bool p.core.on, .bool p.core.broken, s, .int .i64 p.core.count, t] 31 : Obj) by rw [← hw0.out]; exact heap_old (by simp) (heap_new rfl))
  have Y1 := hide (show w0.heap[w.heap.size + 1]? = some (.cells #[.string ⟨#[]⟩, .bool false, .bool false, .slice none 0 0, .int .i64 0, .slice none 0 0] 31 : Obj) by rw [← hw0.out]; exact heap_new (by simp))
  have hs0 : Hid (w0.heap.size = w.heap.size + 1 + 1) := by rw [← hw0.out, Hid]; simp
  go_wp2_with fail
  rw [hw0.out]
  obtain ⟨_, _, _, _, _, _, _⟩ := six_cells Y0.out
  have K0 : Below w.heap.size w w0 := b0
  have KD : ∀ w' : World, Below w.heap.size w w' → Below w.heap.size w w'.drew := fun _ h => h.drew
  have KS : ∀ (w' : World) (k : Nat) (v : Value), Below w.heap.size w w' → Below w.heap.size w (w'.setCell ⟨w.heap.size + 1, k, none⟩ v) := fun _ _ _ h => h.setCell (by simp) _
  go_region_held3 (fun w' => w'.cell? ⟨w.heap.size, 0, none⟩ = some (.string p.core.kind) ∧ w'.cell? ⟨w.heap.size, 1, none⟩ = some (.bool p.core.on) ∧ w'.cell? ⟨w.heap.size, 2, none⟩ = some (.bool p.core.broken) ∧ w'.cell? ⟨w.heap.size, 3, none⟩ = some s ∧ w'.cell? ⟨w.heap.size, 4, none⟩ = some (.int .i64 p.core.count) ∧ w'.cell? ⟨w.heap.size, 5, none⟩ = some t) (go_keep)
    (first
      | (go_at_call 49; refine (iCopyCore_c p.core s _ (RdL.below hs (by first | exact b0 | exact b0.drew | exact KW2 | exact KW2.drew) (Nat.le_refl _)) hl).mono ?_; rintro e WX ⟨vX, rfl, oX, bX⟩; obtain ⟨AX, kX, rfl⟩ := oX.shape; unfold coreV;
             have KW : Below w.heap.size w WX := below_then (by first | exact b0 | exact b0.drew | exact KW2 | exact KW2.drew) bX;
             have KX : ∀ k : Nat, WX.cell? ⟨w.heap.size, k, none⟩ = _ := fun k => World.cell?_of_block (bX.block w.heap.size (by first | exact (Array.getElem?_eq_some_iff.1 Y0.out).1 | exact (Array.getElem?_eq_some_iff.1 YY0.out).1));
             have YX0 := hide (below_row bX (by first | exact Y0.out | exact YY0.out));
             have YX1 := hide (below_row bX (by first | exact Y1.out | exact YY1.out));
             obtain ⟨_, _, _, _, _, _, _⟩ := six_cells YX1.out)
      | (refine step_copy rfl _ _ 29 (by exact rfl) _ 57 i0 _ 2 24 Try.underlying29 hi hz0 hz1 hz2 rfl (by decide) layerEn (fun _ => rfl) one_layer (.slice none 0 0) t p.layers (by exact rfl) (OwnL.nil _ (World.heap (World.drew _)).size _ _ _) (by exact rfl) (RdL.below ht (by first | exact b0 | exact b0.drew | exact KW | exact KW.drew) (Nat.le_refl _)) (Nat.le_refl _) (by omega) (by decide) ?_; intro vY WY oY gY _; obtain ⟨AY, kY, rfl⟩ := oY.shape;
             have KW2 : Below w.heap.size w WY := Below.grown (by first | exact b0 | exact b0.drew | exact KW | exact KW.drew) gY (Below.size (by first | exact b0 | exact b0.drew | exact KW | exact KW.drew)) (fun k hk => by cases hk);
             have KY : ∀ k : Nat, WY.cell? ⟨w.heap.size, k, none⟩ = _ := fun k => World.cell?_of_block (gY.block w.heap.size (by first | exact (Array.getElem?_eq_some_iff.1 Y0.out).1 | exact (Array.getElem?_eq_some_iff.1 YX0.out).1) (by simp [Value.ownBlock]));
             have YY0 := hide (grown_row gY (by simp [Value.ownBlock]) (by first | exact Y0.out | exact YX0.out));
             have YY1 := hide (grown_row gY (by simp [Value.ownBlock]) (by first | exact Y1.out | exact YX1.out));
             obtain ⟨_, _, _, _, _, _, _⟩ := six_cells YY1.out))
  have h1 : w0.heap.size ≤ WX.heap.size := bX.size
  have h2 : WX.heap.size ≤ WY.heap.size := gY.size
  have h0 := hs0.out
  have gY2 : WX.grownBy WY none := ⟨gY.os, gY.tape, gY.output, gY.size, gY.block⟩
  have oX2 : OwnL WY w0.heap.size 74 2 cellEn (.slice AX p.core.cells.length kX) p.core.cells := OwnL.kept oX gY2 (by rcases (Value.slice AX p.core.cells.length kX).ownBlock with _ | g <;> simp)
  have oY2 : OwnL WY WX.heap.size 57 2 layerEn (.slice AY p.layers.length kY) p.layers := oY
  have hd := OwnL.apart oX oY2 (Nat.le_refl _)
  have OX := hide oX2
  have OY := hide oY2
  have HD := hide hd
  obtain ⟨c0, c1, c2, c3, c4, c5, cf⟩ := six_cells YY1.out
  have HB2 := (((((KW2.setCell (p := ⟨w.heap.size + 1, 0, none⟩) (by simp) (Value.string p.core.kind)).setCell (p := ⟨w.heap.size + 1, 1, none⟩) (by simp) (Value.bool p.core.on)).setCell (p := ⟨w.heap.size + 1, 2, none⟩) (by simp) (Value.bool p.core.broken)).setCell (p := ⟨w.heap.size + 1, 3, none⟩) (by simp) (Value.slice AX p.core.cells.length kX)).setCell (p := ⟨w.heap.size + 1, 4, none⟩) (by simp) (Value.int .i64 p.core.count)).setCell (p := ⟨w.heap.size + 1, 5, none⟩) (by simp) (Value.slice AY p.layers.length kY)
  clear oX oY oX2 oY2 hd gY gY2 bX
  go_wp2
  refine bodyPost_ret (v := .agg #[.string p.core.kind, .bool p.core.on, .bool p.core.broken, .slice AX p.core.cells.length kX, .int .i64 p.core.count, .slice AY p.layers.length kY]) (by simp [results, Try.results35, go_sem, c0, c1, c2, c3, c4, c5]) rfl ⟨_, _, rfl, ?_, ?_, HD.out, HB2⟩
  · refine OwnL.mono (b' := w.heap.size) (base := w0.heap.size) ?_ (by omega)
    have HO' := OX.out
    iterate 6 refine OwnL.set ?_ (by simp <;> omega) _
    exact HO'
  · refine OwnL.mono (b' := w.heap.size) (base := WX.heap.size) ?_ (by omega)
    have HO' := OY.out
    iterate 6 refine OwnL.set ?_ (by simp <;> omega) _
    exact HO'
theorem own_nil {α : Type} (w : World) (e : TypeId) (size : Nat) (en : α → List Value) : OwnL (w.alloc (.cells #[] e)) w.heap.size e size en (.slice (some ⟨w.heap.size, 0, none⟩) 0 0) [] :=
  World.ownsRow_made w #[] 0 (Nat.le_refl _) (Nat.zero_le _) (by simp)
set_option maxHeartbeats 4000000 in
theorem sCopyPart_c (p : Pu.PartD) (s t : Value) (w : World) (hs : RdL w 2 cellEn s p.core.cells) (ht : RdL w 2 layerEn t p.layers) (hl : p.core.cells.length ≤ 16777216) (hl' : p.layers.length ≤ 16777216) :
    Calls Try.prog 62 #[partV p s t] w fun e w' => ∃ s' t', e = .returned (partV p s' t') ∧ OwnL w' w.heap.size 74 2 cellEn s' p.core.cells ∧ OwnL w' w.heap.size 57 2 layerEn t' p.layers ∧ (s'.ownBlock = none ∨ s'.ownBlock ≠ t'.ownBlock) ∧ Below w.heap.size w w' := by
  obtain ⟨i0, hi, hz0, hz1, hz2⟩ := info_parts info_layer
  unfold partV
  go_enter Try.func62, Try.ntmps62
  obtain ⟨w0, hw0⟩ : ∃ w0, Hid ((w.alloc (.cells #[.string p.core.kind, .bool p.core.on, .bool p.core.broken, s, .int .i64 p.core.count, t] 31 : Obj)).alloc (.cells #[.string ⟨#[]⟩, .bool false, .bool false, .slice none 0 0, .int .i64 0, .slice none 0 0] 31 : Obj) = w0) := ⟨_, rfl⟩
  have b0 : Below w.heap.size w w0 := by rw [← hw0.out]; exact below_alloc (below_alloc (Below.refl _ _) _) _
  have Y0 := hide (show w0.heap[w.heap.size]? = some (.cells #[.string p.core.kind, .bool p.core.on, .bool p.core.broken, s, .int .i64 p.core.count, t] 31 : Obj) by rw [← hw0.out]; exact heap_old (by simp) (heap_new rfl))
  have Y1 := hide (show w0.heap[w.heap.size + 1]? = some (.cells #[.string ⟨#[]⟩, .bool false, .bool false, .slice none 0 0, .int .i64 0, .slice none 0 0] 31 : Obj) by rw [← hw0.out]; exact heap_new (by simp))
  have hs0 : Hid (w0.heap.size = w.heap.size + 1 + 1) := by rw [← hw0.out, Hid]; simp
  go_wp2_with fail
  rw [hw0.out]
  obtain ⟨_, _, _, _, _, _, _⟩ := six_cells Y0.out
  have K0 : Below w.heap.size w w0 := b0
  have KD : ∀ w' : World, Below w.heap.size w w' → Below w.heap.size w w'.drew := fun _ h => h.drew
  have hL0 : w.heap.size < w0.heap.size := by have := hs0.out; omega
  have hL1 : w.heap.size + 1 < w0.heap.size := by have := hs0.out; omega
  have KS : ∀ (w' : World) (k : Nat) (v : Value), Below w.heap.size w w' → Below w.heap.size w (w'.setCell ⟨w.heap.size + 1, k, none⟩ v) := fun _ _ _ h => h.setCell (by simp) _
  go_region_held3 (fun w' => w'.cell? ⟨w.heap.size, 0, none⟩ = some (.string p.core.kind) ∧ w'.cell? ⟨w.heap.size, 1, none⟩ = some (.bool p.core.on) ∧ w'.cell? ⟨w.heap.size, 2, none⟩ = some (.bool p.core.broken) ∧ w'.cell? ⟨w.heap.size, 3, none⟩ = some s ∧ w'.cell? ⟨w.heap.size, 4, none⟩ = some (.int .i64 p.core.count) ∧ w'.cell? ⟨w.heap.size, 5, none⟩ = some t) (go_keep)
    (first
      | (refine step_copy rfl _ _ 29 (by exact rfl) _ 57 i0 _ 2 24 Try.underlying29 hi hz0 hz1 hz2 rfl (by decide) layerEn (fun _ => rfl) one_layer (.slice (some ⟨WX.heap.size, 0, none⟩) 0 0) t p.layers (by exact rfl) (own_nil WX 57 2 layerEn) (by exact rfl) (RdL.below ht (below_alloc KW _) (Nat.le_refl _)) (by simp) (by omega) (by decide) ?_; intro vY WY oY gY _; obtain ⟨AY, kY, rfl⟩ := oY.shape;
             have hne0 : some w.heap.size ≠ some WX.heap.size := (by simp; omega);
             have hne1 : some (w.heap.size + 1) ≠ some WX.heap.size := (by simp; omega);
             have KW2 : Below w.heap.size w WY := Below.grown (below_alloc KW _) gY (Below.size (below_alloc KW _)) (fun k hk => by have e : WX.heap.size = k := Option.some.inj hk; have h9 := KW.size; omega);
             have KY : ∀ k : Nat, WY.cell? ⟨w.heap.size, k, none⟩ = _ := fun k => World.cell?_of_block (gY.block w.heap.size (by simp; omega) hne0);
             have YY0 := hide (show WY.heap[w.heap.size]? = some (.cells #[.string p.core.kind, .bool p.core.on, .bool p.core.broken, s, .int .i64 p.core.count, t] 31 : Obj) from (gY.block w.heap.size (by simp; omega) hne0).trans (heap_old (by omega) YX0.out));
             have YY1 := hide (show WY.heap[w.heap.size + 1]? = some (.cells #[.string ⟨#[]⟩, .bool false, .bool false, .slice none 0 0, .int .i64 0, .slice none 0 0] 31 : Obj) from (gY.block (w.heap.size + 1) (by simp; omega) hne1).trans (heap_old (by omega) YX1.out));
             obtain ⟨_, _, _, _, _, _, _⟩ := six_cells YY1.out)
      | (refine step_copy rfl _ _ 29 (by exact rfl) w0.heap.size 57 i0 _ 2 24 Try.underlying29 hi hz0 hz1 hz2 rfl (by decide) layerEn (fun _ => rfl) one_layer (.slice (some ⟨w0.heap.size, 0, none⟩) 0 0) t p.layers (by exact rfl) oN (by exact rfl) (RdL.below ht KWZ (Nat.le_refl _)) hZs (by omega) (by decide) ?_; intro vV WV oV gV aV; obtain ⟨AV, kV, rfl⟩ := oV.shape;
             have hme0 : some w.heap.size ≠ some w0.heap.size := (by simp; omega);
             have hme1 : some (w.heap.size + 1) ≠ some w0.heap.size := (by simp; omega);
             have KWV : Below w.heap.size w WV := Below.grown KWZ gV (Below.size KWZ) (fun k hk => by have e : w0.heap.size = k := Option.some.inj hk; omega);
             have KV : ∀ k : Nat, WV.cell? ⟨w.heap.size, k, none⟩ = _ := fun k => World.cell?_of_block (gV.block w.heap.size (by omega) hme0);
             have YV1 := hide (show WV.heap[w.heap.size + 1]? = some (.cells #[.string ⟨#[]⟩, .bool false, .bool false, .slice none 0 0, .int .i64 0, .slice none 0 0] 31 : Obj) from (gV.block (w.heap.size + 1) (by omega) hme1).trans YZ1.out);
             obtain ⟨_, _, _, _, _, _, _⟩ := six_cells YV1.out)
      | (go_at_call 68; refine (sCopyCore_c p.core s w0.drew (RdL.below hs b0.drew (Nat.le_refl _)) hl).mono ?_; rintro e WX ⟨vX, rfl, oX, bX⟩; obtain ⟨AX, kX, rfl⟩ := oX.shape; unfold coreV;
             have KW : Below w.heap.size w WX := below_then b0.drew bX;
             have KX : ∀ k : Nat, WX.cell? ⟨w.heap.size, k, none⟩ = _ := fun k => World.cell?_of_block (bX.block w.heap.size hL0);
             have YX0 := hide (show WX.heap[w.heap.size]? = some (.cells #[.string p.core.kind, .bool p.core.on, .bool p.core.broken, s, .int .i64 p.core.count, t] 31 : Obj) from (bX.block w.heap.size hL0).trans Y0.out);
             have YX1 := hide (show WX.heap[w.heap.size + 1]? = some (.cells #[.string ⟨#[]⟩, .bool false, .bool false, .slice none 0 0, .int .i64 0, .slice none 0 0] 31 : Obj) from (bX.block (w.heap.size + 1) hL1).trans Y1.out);
             have hX : w.heap.size + 1 < WX.heap.size := (Array.getElem?_eq_some_iff.1 YX1.out).1;
             have hXn : WX.heap.size ≠ w.heap.size := (by omega);
             obtain ⟨_, _, _, _, _, _, _⟩ := six_cells YX1.out)
      | (go_at_call 68; refine (sCopyCore_c p.core s (w0.alloc (.cells #[] 57)).drew (RdL.below hs (below_alloc b0 _).drew (Nat.le_refl _)) hl).mono ?_; rintro e WZ ⟨vZ, rfl, oZ, bZ⟩; obtain ⟨AZ, kZ, rfl⟩ := oZ.shape; unfold coreV;
             have KWZ : Below w.heap.size w WZ := below_then (below_alloc b0 _).drew bZ;
             have hLa0 : w.heap.size < (w0.alloc (.cells #[] 57)).drew.heap.size := (by simp; omega);
             have hLa1 : w.heap.size + 1 < (w0.alloc (.cells #[] 57)).drew.heap.size := (by simp; omega);
             have KZ : ∀ k : Nat, WZ.cell? ⟨w.heap.size, k, none⟩ = _ := fun k => World.cell?_of_block (bZ.block w.heap.size hLa0);
             have YZ0 := hide (show WZ.heap[w.heap.size]? = some (.cells #[.string p.core.kind, .bool p.core.on, .bool p.core.broken, s, .int .i64 p.core.count, t] 31 : Obj) from (bZ.block w.heap.size hLa0).trans (heap_old hL0 Y0.out));
             have YZ1 := hide (show WZ.heap[w.heap.size + 1]? = some (.cells #[.string ⟨#[]⟩, .bool false, .bool false, .slice none 0 0, .int .i64 0, .slice none 0 0] 31 : Obj) from (bZ.block (w.heap.size + 1) hLa1).trans (heap_old hL1 Y1.out));
             have hZ : w.heap.size + 1 < WZ.heap.size := (Array.getElem?_eq_some_iff.1 YZ1.out).1;
             have oN : OwnL WZ w0.heap.size 57 2 layerEn (.slice (some ⟨w0.heap.size, 0, none⟩) 0 0) [] := OwnL.below (OwnL.below (own_nil w0 57 2 layerEn) (Below.refl _ _).drew (Nat.le_refl _)) bZ (Nat.le_refl _);
             have hZs : w0.heap.size ≤ WZ.heap.size := (by have := bZ.size; simp at this; omega);
             obtain ⟨_, _, _, _, _, _, _⟩ := six_cells YZ1.out))
  · have h0 := hs0.out
    have hne : (Value.slice AX p.core.cells.length kX).ownBlock = none ∨ (Value.slice AX p.core.cells.length kX).ownBlock ≠ some WX.heap.size := by
      rcases hv : (Value.slice AX p.core.cells.length kX).ownBlock with _ | g
      · exact .inl rfl
      · exact .inr (fun e => by have h8 := (oX.lt hv).2; have h9 := Option.some.inj e; omega)
    have oX2 : OwnL WY w0.heap.size 74 2 cellEn (.slice AX p.core.cells.length kX) p.core.cells := OwnL.kept (OwnL.below oX (below_alloc (Below.refl _ _) _) (Nat.le_refl _)) gY hne
    have oY2 : OwnL WY WX.heap.size 57 2 layerEn (.slice AY p.layers.length kY) p.layers := oY
    have hd := OwnL.apart oX oY2 (Nat.le_refl _)
    have OX := hide oX2
    have OY := hide oY2
    have HD := hide hd
    clear oX oY oX2 oY2 hd gY bX hne
    obtain ⟨c0, c1, c2, c3, c4, c5, cf⟩ := six_cells YY1.out
    have HB2 := (((((KW2.setCell (p := ⟨w.heap.size + 1, 0, none⟩) (by simp) (Value.string p.core.kind)).setCell (p := ⟨w.heap.size + 1, 1, none⟩) (by simp) (Value.bool p.core.on)).setCell (p := ⟨w.heap.size + 1, 2, none⟩) (by simp) (Value.bool p.core.broken)).setCell (p := ⟨w.heap.size + 1, 3, none⟩) (by simp) (Value.slice AX p.core.cells.length kX)).setCell (p := ⟨w.heap.size + 1, 4, none⟩) (by simp) (Value.int .i64 p.core.count)).setCell (p := ⟨w.heap.size + 1, 5, none⟩) (by simp) (Value.slice AY p.layers.length kY)
    go_wp2
    refine bodyPost_ret (v := .agg #[.string p.core.kind, .bool p.core.on, .bool p.core.broken, .slice AX p.core.cells.length kX, .int .i64 p.core.count, .slice AY p.layers.length kY]) (by simp [results, Try.results62, go_sem, c0, c1, c2, c3, c4, c5]) rfl ⟨_, _, rfl, ?_, ?_, HD.out, HB2⟩
    · refine OwnL.mono (b' := w.heap.size) (base := w0.heap.size) ?_ (by omega)
      have HO' := OX.out
      iterate 6 refine OwnL.set ?_ (by simp <;> omega) _
      exact HO'
    · refine OwnL.mono (b' := w.heap.size) (base := WX.heap.size) ?_ (by omega)
      have HO' := OY.out
      iterate 6 refine OwnL.set ?_ (by simp <;> omega) _
      exact HO'
  · have h0 := hs0.out
    have hbz : ∀ g, (Value.slice AZ p.core.cells.length kZ).ownBlock = some g → w0.heap.size < g ∧ g < WZ.heap.size := fun g hg => by
      have h8 := oZ.lt hg
      have h9 : (w0.alloc (.cells #[] 57)).drew.heap.size = w0.heap.size + 1 := by simp
      omega
    have hne : (Value.slice AZ p.core.cells.length kZ).ownBlock = none ∨ (Value.slice AZ p.core.cells.length kZ).ownBlock ≠ some w0.heap.size := by
      rcases hv : (Value.slice AZ p.core.cells.length kZ).ownBlock with _ | g
      · exact .inl rfl
      · exact .inr (fun e => by have h8 := hbz g hv; have h9 := Option.some.inj e; omega)
    have oX2 : OwnL WV w0.heap.size 74 2 cellEn (.slice AZ p.core.cells.length kZ) p.core.cells := OwnL.mono (OwnL.kept oZ gV hne) (by simp)
    have hd : (Value.slice AZ p.core.cells.length kZ).ownBlock = none ∨ (Value.slice AZ p.core.cells.length kZ).ownBlock ≠ (Value.slice AV p.layers.length kV).ownBlock := by
      rcases hv : (Value.slice AZ p.core.cells.length kZ).ownBlock with _ | g
      · exact .inl rfl
      · refine .inr (fun e => ?_)
        have h8 := hbz g hv
        rcases aV with aV | aV
        · have h9 : some g = some w0.heap.size := e.trans aV
          have := Option.some.inj h9; omega
        · have h9 := Option.some.inj (e.trans aV); omega
    have OX := hide oX2
    have OY := hide oV
    have HD := hide hd
    clear oZ oV oX2 hd gV bZ hne oN hbz
    obtain ⟨c0, c1, c2, c3, c4, c5, cf⟩ := six_cells YV1.out
    have HB2 := (((((KWV.setCell (p := ⟨w.heap.size + 1, 0, none⟩) (by simp) (Value.string p.core.kind)).setCell (p := ⟨w.heap.size + 1, 1, none⟩) (by simp) (Value.bool p.core.on)).setCell (p := ⟨w.heap.size + 1, 2, none⟩) (by simp) (Value.bool p.core.broken)).setCell (p := ⟨w.heap.size + 1, 3, none⟩) (by simp) (Value.slice AZ p.core.cells.length kZ)).setCell (p := ⟨w.heap.size + 1, 4, none⟩) (by simp) (Value.int .i64 p.core.count)).setCell (p := ⟨w.heap.size + 1, 5, none⟩) (by simp) (Value.slice AV p.layers.length kV)
    go_wp2
    refine bodyPost_ret (v := .agg #[.string p.core.kind, .bool p.core.on, .bool p.core.broken, .slice AZ p.core.cells.length kZ, .int .i64 p.core.count, .slice AV p.layers.length kV]) (by simp [results, Try.results62, go_sem, c0, c1, c2, c3, c4, c5]) rfl ⟨_, _, rfl, ?_, ?_, HD.out, HB2⟩
    · refine OwnL.mono (b' := w.heap.size) (base := w0.heap.size) ?_ (by omega)
      have HO' := OX.out
      iterate 6 refine OwnL.set ?_ (by simp <;> omega) _
      exact HO'
    · refine OwnL.mono (b' := w.heap.size) (base := w0.heap.size) ?_ (by omega)
      have HO' := OY.out
      iterate 6 refine OwnL.set ?_ (by simp <;> omega) _
      exact HO'
end Go.Proofs.Ytnabpefjcgehiaa
/- Contracts: the faces of parts. -/
namespace Go.Proofs.Ytnabpefjcgehiaa
open Go.ChangeShapes Go.WideShapes Go.ChangeAt Go.RowKit
set_option maxRecDepth 100000
def Pu.faceAt (p : Pu.PartD) : Nat → Int
  | 0 => Pu.kindF p.core.kind.toList
  | k + 1 => match p.layers[k]? with
    | some l => Pu.layG l.name.toList
    | none => 0
theorem Pu.lay_bd (s : List UInt8) : 0 ≤ Pu.layN s ∧ Pu.layN s ≤ 63 ∧ 0 ≤ Pu.layG s ∧ Pu.layG s ≤ 63 := by
  unfold Pu.layN Pu.layG Pu.layers
  simp only [Pu.look]
  repeat' (split; · simp)
  simp
theorem Pu.faceAt_bd (p : Pu.PartD) (k : Nat) : 0 ≤ Pu.faceAt p k ∧ Pu.faceAt p k ≤ 63 := by
  match k with
  | 0 => exact Pu.kind_bd _
  | k + 1 =>
    simp only [Pu.faceAt]
    split
    · exact (Pu.lay_bd _).2.2
    · simp
theorem iFaceBelow_c (p : Pu.PartD) (s t : Value) (k : Nat) (w : World) (ht : RdL w 2 layerEn t p.layers) (hk : k ≤ p.layers.length) :
    Calls Try.prog 27 #[partV p s t, .int .i64 k] w fun e w' => e = .returned (.int .i64 (Pu.faceAt p k)) ∧ Below w.heap.size w w' := by
  unfold partV
  obtain ⟨A, c, rfl, hlc, hcm, hA⟩ := ht.open_
  have HA := hide hA
  clear hA ht
  match k with
  | 0 =>
    go_enter Try.func27, Try.ntmps27
    go_wp2_with fail
    refine (iKindFace_c _ _).mono ?_; rintro e w1 ⟨rfl, rfl⟩
    go_wp2
    go_ret
    exact ⟨rfl, below_alloc (Below.refl _ _) _⟩
  | k + 1 =>
    obtain ⟨g, o, rfl, hg, HC⟩ := HA.out.at_ (by omega)
    obtain ⟨x, HX, h0, h1⟩ := layer_get HC (below_alloc (Below.refl _ _) (.cells #[.string p.core.kind, .bool p.core.on, .bool p.core.broken, s, .int .i64 p.core.count, .slice (some ⟨g, o, none⟩) p.layers.length c] 31)) (k := k) (by omega)
    have HE : Hid (Pu.faceAt p (k + 1) = Pu.layG x.name.toList) := by rw [Hid, Pu.faceAt, HX.out]
    rw [HE.out]
    have e0 : ((k + 1 : Nat) : Int) = (k : Int) + 1 := by omega
    rw [e0]
    have e1 : IntKind.i64.wrap ((k : Int) + 1 - 1) = (k : Int) := by rw [show (k : Int) + 1 - 1 = k by omega]; exact IntWalk.i64_in _ (by omega)
    have e2 : ¬ (k : Int) + 1 = 0 := by omega
    have e3 : (k : Int) < (p.layers.length : Int) := by omega
    have hlm : p.layers.length ≤ 9223372036854775807 := by omega
    clear e0
    go_enter Try.func27, Try.ntmps27
    go_wp2_with (go_at_call 26; refine (iLayerFaces_c _ _).mono ?_; rintro e w1 ⟨rfl, rfl⟩)
    go_ret
    exact ⟨rfl, below_alloc (Below.refl _ _) _⟩
theorem sFaceBelow_c (p : Pu.PartD) (s t : Value) (k : Nat) (w : World) (ht : RdL w 2 layerEn t p.layers) (hk : k ≤ p.layers.length) :
    Calls Try.prog 47 #[partV p s t, .int .i64 k] w fun e w' => e = .returned (.int .i64 (Pu.faceAt p k)) ∧ Below w.heap.size w w' := by
  unfold partV
  obtain ⟨A, c, rfl, hlc, hcm, hA⟩ := ht.open_
  have HA := hide hA
  clear hA ht
  match k with
  | 0 =>
    go_enter Try.func47, Try.ntmps47
    go_wp2_with fail
    refine (sKindFace_c _ _).mono ?_; rintro e w1 ⟨rfl, hb1⟩
    go_wp2
    go_ret
    exact ⟨rfl, (below_alloc (Below.refl _ _) _).trans (hb1.mono (by simp))⟩
  | k + 1 =>
    obtain ⟨g, o, rfl, hg, HC⟩ := HA.out.at_ (by omega)
    obtain ⟨x, HX, h0, h1⟩ := layer_get HC (below_alloc (Below.refl _ _) (.cells #[.string p.core.kind, .bool p.core.on, .bool p.core.broken, s, .int .i64 p.core.count, .slice (some ⟨g, o, none⟩) p.layers.length c] 31)) (k := k) (by omega)
    have HE : Hid (Pu.faceAt p (k + 1) = Pu.layG x.name.toList) := by rw [Hid, Pu.faceAt, HX.out]
    rw [HE.out]
    have e0 : ((k + 1 : Nat) : Int) = (k : Int) + 1 := by omega
    rw [e0]
    have e1 : IntKind.i64.wrap ((k : Int) + 1 - 1) = (k : Int) := by rw [show (k : Int) + 1 - 1 = k by omega]; exact IntWalk.i64_in _ (by omega)
    have e2 : ¬ (k : Int) + 1 = 0 := by omega
    have e3 : (k : Int) < (p.layers.length : Int) := by omega
    have hlm : p.layers.length ≤ 9223372036854775807 := by omega
    clear e0
    go_enter Try.func47, Try.ntmps47
    go_wp2_with fail
    refine (l4Row_c _ _).mono ?_; rintro e w1 ⟨rfl, hb1⟩
    go_wp2
    go_ret
    exact ⟨rfl, (below_alloc (Below.refl _ _) _).trans (hb1.mono (by simp))⟩
theorem iFaceOf_c (p : Pu.PartD) (s t : Value) (w : World) (ht : RdL w 2 layerEn t p.layers) :
    Calls Try.prog 13 #[partV p s t] w fun e w' => e = .returned (.int .i64 (Pu.faceAt p p.layers.length)) ∧ Below w.heap.size w w' := by
  obtain ⟨A, c, rfl, hlc, hcm, hA⟩ := ht.open_
  have hlm : p.layers.length ≤ 9223372036854775807 := by omega
  have HA := hide hA
  have HT := hide ht
  clear hA ht
  unfold partV
  go_enter Try.func13, Try.ntmps13
  go_wp2_with fail
  refine (iFaceBelow_c p s _ p.layers.length _ (RdL.below HT.out (below_alloc (Below.refl _ _) _) (Nat.le_refl _)) (Nat.le_refl _)).mono ?_; rintro e w1 ⟨rfl, hb1⟩
  go_wp2
  go_ret
  exact ⟨rfl, (below_alloc (Below.refl _ _) _).trans (hb1.mono (by simp))⟩
theorem sFaceOf_c (p : Pu.PartD) (s t : Value) (w : World) (ht : RdL w 2 layerEn t p.layers) :
    Calls Try.prog 33 #[partV p s t] w fun e w' => e = .returned (.int .i64 (Pu.faceAt p p.layers.length)) ∧ Below w.heap.size w w' := by
  obtain ⟨A, c, rfl, hlc, hcm, hA⟩ := ht.open_
  have hlm : p.layers.length ≤ 9223372036854775807 := by omega
  have HA := hide hA
  have HT := hide ht
  clear hA ht
  unfold partV
  go_enter Try.func33, Try.ntmps33
  go_wp2_with fail
  refine (sFaceBelow_c p s _ p.layers.length _ (RdL.below HT.out (below_alloc (Below.refl _ _) _) (Nat.le_refl _)) (Nat.le_refl _)).mono ?_; rintro e w1 ⟨rfl, hb1⟩
  go_wp2
  go_ret
  exact ⟨rfl, (below_alloc (Below.refl _ _) _).trans (hb1.mono (by simp))⟩
end Go.Proofs.Ytnabpefjcgehiaa
/- Contracts: NewCore, NewPart. -/
namespace Go.Proofs.Ytnabpefjcgehiaa
open Go.ChangeShapes Go.WideShapes Go.ChangeAt Go.RowKit
set_option maxRecDepth 100000
def Pu.newCore (k : ByteArray) : Pu.CoreD := if Pu.kindOk k.toList then ⟨k, false, false, [], 0⟩ else ⟨ByteArray.empty, false, false, [], 0⟩
theorem Pu.newCore_cells (k : ByteArray) : (Pu.newCore k).cells = [] := by unfold Pu.newCore; split <;> rfl
theorem iNewCore_c (k : ByteArray) (w : World) :
    Calls Try.prog 39 #[.string k] w fun e w' => e = .returned (.tuple #[coreV (Pu.newCore k) (.slice none 0 0), .bool (Pu.kindOk k.toList)]) ∧ Below w.heap.size w w' := by
  rcases hk : Pu.kindOk k.toList
  · have HE : Hid (Pu.newCore k = ⟨ByteArray.empty, false, false, [], 0⟩) := by rw [Hid, Pu.newCore, hk]; rfl
    rw [HE.out]
    have HK := hide hk
    clear hk
    go_enter Try.func39, Try.ntmps39
    go_wp2_with fail
    refine (iKindFace_c _ _).mono ?_; rintro e w1 ⟨rfl, hb1⟩
    have hb1 : Below (w.alloc (.cells #[.string ⟨#[]⟩, .bool false, .bool false, .slice none 0 0, .int .i64 0] 28)).heap.size (w.alloc (.cells #[.string ⟨#[]⟩, .bool false, .bool false, .slice none 0 0, .int .i64 0] 28)) w1 := by first | exact hb1 | (rw [← hb1]; exact Below.refl _ _)
    rw [HK.out]
    obtain ⟨c0, c1, c2, c3, c4, _⟩ := five_cells ((hb1.block w.heap.size (by simp)).trans (heap_new rfl))
    have HB : Below w.heap.size w w1 := (below_alloc (Below.refl _ _) _).trans (hb1.mono (by simp))
    go_wp2_with fail
    have HB2 := ((((HB.setCell (p := ⟨w.heap.size, 0, none⟩) (by simp) (Value.string ⟨#[]⟩)).setCell (p := ⟨w.heap.size, 1, none⟩) (by simp) (Value.bool false)).setCell (p := ⟨w.heap.size, 2, none⟩) (by simp) (Value.bool false)).setCell (p := ⟨w.heap.size, 3, none⟩) (by simp) (Value.slice none 0 0)).setCell (p := ⟨w.heap.size, 4, none⟩) (by simp) (Value.int .i64 0)
    exact bodyPost_ret (v := .tuple #[.agg #[.string ⟨#[]⟩, .bool false, .bool false, .slice none 0 0, .int .i64 0], .bool false]) (by simp [results, Try.results39, go_sem, c0, c1, c2, c3, c4]) rfl ⟨rfl, HB2⟩
  · have HE : Hid (Pu.newCore k = ⟨k, false, false, [], 0⟩) := by rw [Hid, Pu.newCore, hk]; rfl
    rw [HE.out]
    have HK := hide hk
    clear hk
    go_enter Try.func39, Try.ntmps39
    go_wp2_with fail
    refine (iKindFace_c _ _).mono ?_; rintro e w1 ⟨rfl, hb1⟩
    have hb1 : Below (w.alloc (.cells #[.string ⟨#[]⟩, .bool false, .bool false, .slice none 0 0, .int .i64 0] 28)).heap.size (w.alloc (.cells #[.string ⟨#[]⟩, .bool false, .bool false, .slice none 0 0, .int .i64 0] 28)) w1 := by first | exact hb1 | (rw [← hb1]; exact Below.refl _ _)
    rw [HK.out]
    obtain ⟨c0, c1, c2, c3, c4, _⟩ := five_cells ((hb1.block w.heap.size (by simp)).trans (heap_new rfl))
    have HB : Below w.heap.size w w1 := (below_alloc (Below.refl _ _) _).trans (hb1.mono (by simp))
    go_wp2_with fail
    have HB2 := ((((HB.setCell (p := ⟨w.heap.size, 0, none⟩) (by simp) (Value.string k)).setCell (p := ⟨w.heap.size, 1, none⟩) (by simp) (Value.bool false)).setCell (p := ⟨w.heap.size, 2, none⟩) (by simp) (Value.bool false)).setCell (p := ⟨w.heap.size, 3, none⟩) (by simp) (Value.slice none 0 0)).setCell (p := ⟨w.heap.size, 4, none⟩) (by simp) (Value.int .i64 0)
    exact bodyPost_ret (v := .tuple #[.agg #[.string k, .bool false, .bool false, .slice none 0 0, .int .i64 0], .bool true]) (by simp [results, Try.results39, go_sem, c0, c1, c2, c3, c4]) rfl ⟨rfl, HB2⟩
theorem sNewCore_c (k : ByteArray) (w : World) :
    Calls Try.prog 64 #[.string k] w fun e w' => e = .returned (.tuple #[coreV (Pu.newCore k) (.slice none 0 0), .bool (Pu.kindOk k.toList)]) ∧ Below w.heap.size w w' := by
  rcases hk : Pu.kindOk k.toList
  · have HE : Hid (Pu.newCore k = ⟨ByteArray.empty, false, false, [], 0⟩) := by rw [Hid, Pu.newCore, hk]; rfl
    rw [HE.out]
    have HK := hide hk
    clear hk
    go_enter Try.func64, Try.ntmps64
    go_wp2_with fail
    refine (sKindFace_c _ _).mono ?_; rintro e w1 ⟨rfl, hb1⟩
    have hb1 : Below (w.alloc (.cells #[.string ⟨#[]⟩, .bool false, .bool false, .slice none 0 0, .int .i64 0] 28)).heap.size (w.alloc (.cells #[.string ⟨#[]⟩, .bool false, .bool false, .slice none 0 0, .int .i64 0] 28)) w1 := by first | exact hb1 | (rw [← hb1]; exact Below.refl _ _)
    rw [HK.out]
    obtain ⟨c0, c1, c2, c3, c4, _⟩ := five_cells ((hb1.block w.heap.size (by simp)).trans (heap_new rfl))
    have HB : Below w.heap.size w w1 := (below_alloc (Below.refl _ _) _).trans (hb1.mono (by simp))
    go_wp2_with fail
    have HB2 := ((((HB.setCell (p := ⟨w.heap.size, 0, none⟩) (by simp) (Value.string ⟨#[]⟩)).setCell (p := ⟨w.heap.size, 1, none⟩) (by simp) (Value.bool false)).setCell (p := ⟨w.heap.size, 2, none⟩) (by simp) (Value.bool false)).setCell (p := ⟨w.heap.size, 3, none⟩) (by simp) (Value.slice none 0 0)).setCell (p := ⟨w.heap.size, 4, none⟩) (by simp) (Value.int .i64 0)
    exact bodyPost_ret (v := .tuple #[.agg #[.string ⟨#[]⟩, .bool false, .bool false, .slice none 0 0, .int .i64 0], .bool false]) (by simp [results, Try.results64, go_sem, c0, c1, c2, c3, c4]) rfl ⟨rfl, HB2⟩
  · have HE : Hid (Pu.newCore k = ⟨k, false, false, [], 0⟩) := by rw [Hid, Pu.newCore, hk]; rfl
    rw [HE.out]
    have HK := hide hk
    clear hk
    go_enter Try.func64, Try.ntmps64
    go_wp2_with fail
    refine (sKindFace_c _ _).mono ?_; rintro e w1 ⟨rfl, hb1⟩
    have hb1 : Below (w.alloc (.cells #[.string ⟨#[]⟩, .bool false, .bool false, .slice none 0 0, .int .i64 0] 28)).heap.size (w.alloc (.cells #[.string ⟨#[]⟩, .bool false, .bool false, .slice none 0 0, .int .i64 0] 28)) w1 := by first | exact hb1 | (rw [← hb1]; exact Below.refl _ _)
    rw [HK.out]
    obtain ⟨c0, c1, c2, c3, c4, _⟩ := five_cells ((hb1.block w.heap.size (by simp)).trans (heap_new rfl))
    have HB : Below w.heap.size w w1 := (below_alloc (Below.refl _ _) _).trans (hb1.mono (by simp))
    go_wp2_with fail
    have HB2 := ((((HB.setCell (p := ⟨w.heap.size, 0, none⟩) (by simp) (Value.string k)).setCell (p := ⟨w.heap.size, 1, none⟩) (by simp) (Value.bool false)).setCell (p := ⟨w.heap.size, 2, none⟩) (by simp) (Value.bool false)).setCell (p := ⟨w.heap.size, 3, none⟩) (by simp) (Value.slice none 0 0)).setCell (p := ⟨w.heap.size, 4, none⟩) (by simp) (Value.int .i64 0)
    exact bodyPost_ret (v := .tuple #[.agg #[.string k, .bool false, .bool false, .slice none 0 0, .int .i64 0], .bool true]) (by simp [results, Try.results64, go_sem, c0, c1, c2, c3, c4]) rfl ⟨rfl, HB2⟩
def Pu.newPart (k : ByteArray) : Pu.PartD := ⟨Pu.newCore k, []⟩
set_option maxHeartbeats 1000000 in
theorem iNewPart_c (k : ByteArray) (w : World) :
    Calls Try.prog 23 #[.string k] w fun e w' => e = .returned (.tuple #[partV (Pu.newPart k) (.slice none 0 0) (.slice none 0 0), .bool (Pu.kindOk k.toList)]) ∧ Below w.heap.size w w' := by
  go_enter Try.func23, Try.ntmps23
  go_wp2_with fail
  refine (iNewCore_c _ _).mono ?_; rintro e w1 ⟨rfl, hb1⟩
  unfold coreV
  obtain ⟨c0, c1, c2, c3, c4, c5, cf⟩ := six_cells ((hb1.block w.heap.size (by simp)).trans (heap_new rfl))
  have hs1 : w.heap.size < w1.heap.size := by have := hb1.size; simp at this; omega
  have HB : Below w.heap.size w w1 := (below_alloc (Below.refl _ _) _).trans (hb1.mono (by simp))
  clear hb1
  go_wp2_with fail
  have HB2 := below_alloc ((((((HB.setCell (p := ⟨w.heap.size, 0, none⟩) (by simp) (Value.string (Pu.newCore k).kind)).setCell (p := ⟨w.heap.size, 1, none⟩) (by simp) (Value.bool (Pu.newCore k).on)).setCell (p := ⟨w.heap.size, 2, none⟩) (by simp) (Value.bool (Pu.newCore k).broken)).setCell (p := ⟨w.heap.size, 3, none⟩) (by simp) (Value.slice none 0 0)).setCell (p := ⟨w.heap.size, 4, none⟩) (by simp) (Value.int .i64 (Pu.newCore k).count)).setCell (p := ⟨w.heap.size, 5, none⟩) (by simp) (Value.slice none 0 0)) (.cells #[.string (Pu.newCore k).kind, .bool (Pu.newCore k).on, .bool (Pu.newCore k).broken, .slice none 0 0, .int .i64 (Pu.newCore k).count] 28)
  exact bodyPost_ret (v := .tuple #[.agg #[.string (Pu.newCore k).kind, .bool (Pu.newCore k).on, .bool (Pu.newCore k).broken, .slice none 0 0, .int .i64 (Pu.newCore k).count, .slice none 0 0], .bool (Pu.kindOk k.toList)]) (by simp [results, Try.results23, go_sem, hs1, c0, c1, c2, c3, c4, c5]) rfl ⟨rfl, HB2⟩
set_option maxHeartbeats 1000000 in
theorem sNewPart_c (k : ByteArray) (w : World) :
    Calls Try.prog 60 #[.string k] w fun e w' => e = .returned (.tuple #[partV (Pu.newPart k) (.slice none 0 0) (.slice none 0 0), .bool (Pu.kindOk k.toList)]) ∧ Below w.heap.size w w' := by
  go_enter Try.func60, Try.ntmps60
  go_wp2_with fail
  refine (sNewCore_c _ _).mono ?_; rintro e w1 ⟨rfl, hb1⟩
  unfold coreV
  obtain ⟨c0, c1, c2, c3, c4, c5, cf⟩ := six_cells ((hb1.block w.heap.size (by simp)).trans (heap_new rfl))
  have hs1 : w.heap.size < w1.heap.size := by have := hb1.size; simp at this; omega
  have HB : Below w.heap.size w w1 := (below_alloc (Below.refl _ _) _).trans (hb1.mono (by simp))
  clear hb1
  go_wp2_with fail
  have HB2 := below_alloc ((((((HB.setCell (p := ⟨w.heap.size, 0, none⟩) (by simp) (Value.string (Pu.newCore k).kind)).setCell (p := ⟨w.heap.size, 1, none⟩) (by simp) (Value.bool (Pu.newCore k).on)).setCell (p := ⟨w.heap.size, 2, none⟩) (by simp) (Value.bool (Pu.newCore k).broken)).setCell (p := ⟨w.heap.size, 3, none⟩) (by simp) (Value.slice none 0 0)).setCell (p := ⟨w.heap.size, 4, none⟩) (by simp) (Value.int .i64 (Pu.newCore k).count)).setCell (p := ⟨w.heap.size, 5, none⟩) (by simp) (Value.slice none 0 0)) (.cells #[.string (Pu.newCore k).kind, .bool (Pu.newCore k).on, .bool (Pu.newCore k).broken, .slice none 0 0, .int .i64 (Pu.newCore k).count] 28)
  exact bodyPost_ret (v := .tuple #[.agg #[.string (Pu.newCore k).kind, .bool (Pu.newCore k).on, .bool (Pu.newCore k).broken, .slice none 0 0, .int .i64 (Pu.newCore k).count, .slice none 0 0], .bool (Pu.kindOk k.toList)]) (by simp [results, Try.results60, go_sem, hs1, c0, c1, c2, c3, c4, c5]) rfl ⟨rfl, HB2⟩
end Go.Proofs.Ytnabpefjcgehiaa
/- Contracts: parts, 3: SamePart. -/
namespace Go.Proofs.Ytnabpefjcgehiaa
open Go.ChangeShapes Go.WideShapes Go.ChangeAt Go.RowKit
set_option maxRecDepth 100000
def layKey (c : Pu.LayerD) : List UInt8 × Int := (c.name.toList, c.count)
def Pu.samePart (p q : Pu.PartD) : Bool := Pu.sameCore p.core q.core && (p.layers.map layKey == q.layers.map layKey)
theorem Pu.samePart_len {p q : Pu.PartD} (h : ¬ p.layers.length = q.layers.length) : Pu.samePart p q = false := by
  rcases hs : Pu.samePart p q
  · rfl
  · simp only [Pu.samePart, Bool.and_eq_true, beq_iff_eq] at hs
    exact absurd (by simpa using congrArg List.length hs.2) h
set_option maxHeartbeats 2000000 in
theorem iSamePart_c (p q : Pu.PartD) (s u t v : Value) (w : World) (hs : RdL w 2 cellEn s p.core.cells) (hu : RdL w 2 layerEn u p.layers) (ht : RdL w 2 cellEn t q.core.cells) (hv : RdL w 2 layerEn v q.layers) :
    Calls Try.prog 9 #[partV p s u, partV q t v] w fun e w' => e = .returned (.bool (Pu.samePart p q)) ∧ Below w.heap.size w w' := by
  unfold partV
  obtain ⟨A, c, rfl, hlc, hcm, hA⟩ := hu.open_
  obtain ⟨B, d, rfl, hld, hdm, hB⟩ := hv.open_
  have HA := hide hA
  have HB := hide hB
  have HS := hide hs
  have HT := hide ht
  clear hA hB hs ht hu hv
  have HW : Below w.heap.size w ((w.alloc (.cells #[.string p.core.kind, .bool p.core.on, .bool p.core.broken, s, .int .i64 p.core.count, .slice A p.layers.length c] 31)).alloc (.cells #[.string q.core.kind, .bool q.core.on, .bool q.core.broken, t, .int .i64 q.core.count, .slice B q.layers.length d] 31)) := below_alloc (below_alloc (Below.refl _ _) _) _
  have hlp : p.layers.length ≤ 9223372036854775807 := by omega
  have hlq : q.layers.length ≤ 9223372036854775807 := by omega
  go_enter Try.func9, Try.ntmps9
  go_wp2_with fail
  refine (iSameCore_c p.core q.core s t _ (RdL.below HS.out HW (Nat.le_refl _)) (RdL.below HT.out HW (Nat.le_refl _))).mono ?_; rintro e w1 ⟨rfl, hb1⟩
  have Y0 := hide ((hb1.block w.heap.size (by simp; omega)).trans (heap_old (by simp) (heap_new rfl)))
  have Y1 := hide ((hb1.block (w.heap.size + 1) (by simp)).trans (heap_new (by simp)))
  have hs1 : w.heap.size + 1 < w1.heap.size := by have := hb1.size; simp at this; omega
  have B1 : Below w.heap.size w w1 := HW.trans (hb1.mono (by simp; omega))
  obtain ⟨_, _, _, _, _, _, _⟩ := six_cells Y0.out
  obtain ⟨_, _, _, _, _, _, _⟩ := six_cells Y1.out
  clear hb1 HW
  rcases hsc : Pu.sameCore p.core q.core
  · have HE : Hid (Pu.samePart p q = false) := by rw [Hid, Pu.samePart, hsc]; rfl
    go_wp2_with fail
    go_ret
    exact ⟨ret_bool HE.out.symm, B1⟩
  have HE : Hid (Pu.samePart p q = (p.layers.map layKey == q.layers.map layKey)) := by rw [Hid, Pu.samePart, hsc]; rfl
  clear hsc
  by_cases hl : p.layers.length = q.layers.length
  · have HL := hide hl
    rw [hl]
    go_wp2
    go_loopw [24] (fun i wr => ∃ k : Nat, k ≤ q.layers.length ∧ i = .int .i64 k ∧ Hid ((p.layers.map layKey).take k = (q.layers.map layKey).take k) ∧ Below w1.heap.size w1 wr) (fun i _ => q.layers.length - (intOf i).toNat)
    case atStart => exact ⟨0, by omega, rfl, rfl, Below.refl _ _⟩
    case round =>
      obtain ⟨k, hk, rfl, HT, hb⟩ := hrel
      by_cases hlt : k < q.layers.length
      · obtain ⟨g, o, rfl, hg, HC⟩ := HA.out.at_ (by rw [HL.out]; omega)
        obtain ⟨g', o', rfl, hg', HC'⟩ := HB.out.at_ (by omega)
        have hbw : Below w.heap.size w wr := below_then B1 hb
        obtain ⟨x, HX, h0, h1⟩ := layer_get HC hbw (k := k) (by rw [HL.out]; exact hlt)
        obtain ⟨y, HY, h2, h3⟩ := layer_get HC' hbw hlt
        obtain ⟨_, _, _, _, _, _, _⟩ := six_cells ((hb.block w.heap.size (by omega)).trans Y0.out)
        obtain ⟨_, _, _, _, _, _, _⟩ := six_cells ((hb.block (w.heap.size + 1) (by omega)).trans Y1.out)
        have HB2 := hide hbw
        have HB3 := hide hb
        clear hb hbw
        go_wp2
        have hq := fun w' => neq_layer x.name y.name x.count y.count w'
        have hgu := guard_layer
        go_quiet (fail)
        go_wp2
        · go_ret
          have hk' : layKey x ≠ layKey y := fun e => by
            simp only [layKey, Prod.mk.injEq] at e
            have hor := ‹_ ∨ _›
            simp [e.1, e.2] at hor
          exact ⟨ret_bool (by rw [HE.out]; simpa using Pu.map_ne HX.out HY.out hk'), below_drewN HB2.out _⟩
        · go_roundw
          case rel =>
            have hor := ‹_ ∧ _›
            simp only [Bool.not_eq_false', beq_iff_eq] at hor
            exact ⟨k + 1, by omega, by go_num, Pu.take_map HT.out HX.out HY.out (by rw [layKey, layKey, hor.1, hor.2]), below_drewN HB3.out _⟩
          case measure => simp [intOf]; omega
      · obtain rfl : k = q.layers.length := by omega
        go_wp2
        go_ret
        exact ⟨ret_bool (by have h := HT.out; rw [HE.out]; rw [List.take_of_length_le (by simp [HL.out]), List.take_of_length_le (by simp)] at h; simp [h]), below_then B1 hb⟩
  · have HF := hide (Pu.samePart_len hl)
    have hl' : ¬ (p.layers.length : Int) = (q.layers.length : Int) := by omega
    go_wp2_with fail
    go_ret
    exact ⟨ret_bool HF.out.symm, B1⟩
end Go.Proofs.Ytnabpefjcgehiaa
