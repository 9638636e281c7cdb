/- 'append(nil, xs...)': a copy of a slice. -/
import Derived.Test.YtnabpefjcgehiaaM0
import Derived.Deep.AppendSrc
import Derived.Deep.AppendLies
namespace Go.Proofs.Ytnabpefjcgehiaa
open Go.ChangeShapes Go.WideShapes Go.ChangeAt Go.RowKit
set_option maxRecDepth 100000
section
variable {P : Program}
/-- nothing appended: the slice itself -/
theorem run_append_none (w : World) (t ty e : TypeId) (i : TypeInfo) (ht : P.underlying t = some (.slice e)) (hi : P.info? e = some i) (ao : Option Addr) (n cap c : Nat) (hn : n ≤ cap) :
    (Builtin.append_ #[t, t] ty #[.slice ao n cap, .slice none 0 c]).run P w = .ok (.slice ao n cap) w := by
  have hs : Src P i.size t (.slice none 0 c) 0 [] w := Src.ofNil w ht c
  rcases ao with _ | a
  · simp [Builtin.append_, run_underlying ht, sizeOf, typeInfo, hi, hs.len, hn, hs.cells]
  · simp [Builtin.append_, run_underlying ht, sizeOf, typeInfo, hi, hs.len, hn, hs.cells, storeCells]
theorem flat_read {α : Type} {en : α → List Value} {size : Nat} (hs : ∀ x, (en x).length = size) (hsz : 0 < size) {w : World} {g o : Nat} : ∀ {l : List α} {k : Nat}, (∀ i x, l[i]? = some x → ∀ j u, (en x)[j]? = some u → w.cell? ⟨g, o + (k + i) * size + j, none⟩ = some u) →
    ∀ {j : Nat} {u : Value}, (l.flatMap en)[j]? = some u → w.cell? ⟨g, o + k * size + j, none⟩ = some u
  | [], k, h, j, u, hu => by simp at hu
  | x :: r, k, h, j, u, hu => by
    rw [List.flatMap_cons] at hu
    by_cases hj : j < size
    · rw [List.getElem?_append_left (by rw [hs]; exact hj)] at hu
      have := h 0 x rfl j u hu
      simpa using this
    · rw [List.getElem?_append_right (by rw [hs]; omega), hs] at hu
      have := flat_read hs hsz (l := r) (k := k + 1) (fun i y hy j' u' hu' => by
        have := h (i + 1) y (by simpa using hy) j' u' hu'
        rw [show k + 1 + i = k + (i + 1) by omega]
        exact this) hu
      rw [show o + (k + 1) * size + (j - size) = o + k * size + j by rw [Nat.add_mul]; omega] at this
      exact this
theorem copy_law {α : Type} {ops : Array Oper} {rest : List Oper} {o : Oper} {a : Act} {Q : Exit → Act → World → Prop} {wr : World} (hgd : o.guard = none) (s x : Operand) (t : TypeId)
    (ho : o.op = .call { callee := .builtin .append, args := #[s, x], argTypes := #[t, t] }) (base : Nat) (e : TypeId) (i : TypeInfo) (z : Value) (size bytes : Nat)
    (ht : P.underlying t = some (.slice e)) (hi : P.info? e = some i) (hz : i.zero = some z) (hsize : i.size = size) (hby : i.bytes = bytes) (hzs : z.cells.size = size) (hsz : 0 < size)
    (en : α → List Value) (hen : ∀ x, (en x).length = size) (hone : ∀ x, ∀ u ∈ en x, u.oneCell' = true) (v0 vx : Value) (l : List α) (hs : a.eval s = v0) (hown : OwnL wr base e size en v0 []) (hx : a.eval x = vx) (hr : RdL wr size en vx l)
    (hb : base ≤ wr.heap.size) (hl : l.length ≤ 1099511627776) (hbytes : bytes ≤ 64)
    (h : ∀ v' w', OwnL w' base e size en v' l → wr.grownBy w' v0.ownBlock → wpList P ops Q rest (a.put o.dst v') w') :
    wpList P ops Q (o :: rest) a wr := by
  obtain ⟨A, c, rfl, hlc, hcm, hrd⟩ := hr
  have hown0 : wr.ownsRow base e size v0 0 [] := hown
  have hbt : (0 + l.length) * bytes ≤ 140737488355328 := by
    calc (0 + l.length) * bytes ≤ 1099511627776 * 64 := Nat.mul_le_mul (by omega) hbytes
      _ ≤ 140737488355328 := by decide
  rcases A with _ | ad
  · have hl0 : l = [] := by
      rcases l with _ | ⟨y, r⟩
      · rfl
      · obtain ⟨_, _, hA, _⟩ := hrd (by simp); cases hA
    subst hl0
    obtain ⟨ao, n, cap, rfl, hn⟩ : ∃ ao n cap, v0 = .slice ao n cap ∧ n ≤ cap := by
      rcases hown0.2 with ⟨rfl, _⟩ | ⟨g, cap, cur, rfl, _, _, hnc, _⟩
      · exact ⟨none, 0, 0, rfl, Nat.le_refl _⟩
      · exact ⟨_, 0, cap, rfl, hnc⟩
    refine wpList_plain hgd fun K hK => ?_
    unfold Oper.wp execOp
    simp only [ho, resolve, invoke, builtin, Sem.run_bind, Sem.run_pure, Result.andThen_ok, List.map_toArray, List.map_cons, List.map_nil, hs, hx]
    have hrun := run_append_none (P := P) wr t o.type e i ht hi ao n cap c hn
    simp only [List.length_nil, hrun, Result.andThen_ok]
    exact hK _ _ (h _ _ hown (grown_refl _ _))
  · refine wpList_append_own _ hgd s x t ho base e i z size bytes ht hi hz hsize hby hzs hsz v0 0 [] hs hown0 ad l.length c (l.flatMap en) hx (flat_len hen l) ?_ ?_ (by unfold maxLen; omega) hbt hb ?_
    · intro j u hj
      have hl0 : 0 < l.length := by
        rcases l with _ | ⟨y, r⟩
        · simp at hj
        · simp
      obtain ⟨g, o', hA, hg, hc⟩ := hrd hl0
      cases hA
      have e1 : (⟨g, o', none⟩ : Addr).add j = ⟨g, o' + j, none⟩ := by unfold Addr.add; split <;> simp_all
      rw [e1]
      have := flat_read (w := wr) (g := g) (o := o') hen hsz (l := l) (k := 0) (fun i x hx j u hu => by simpa using hc i x hx j u hu) hj
      simpa using this
    · intro u hu
      obtain ⟨y, _, hy⟩ := List.mem_flatMap.1 hu
      exact hone y u hy
    · intro v' w' hown' hg _
      refine h v' w' ?_ hg
      have : w'.ownsRow base e size v' (0 + l.length) ([] ++ l.flatMap en) := hown'
      simpa [OwnL] using this
theorem run_copy {α : Type} (wr : World) (t ty : TypeId) (base : Nat) (e : TypeId) (i : TypeInfo) (z : Value) (size bytes : Nat)
    (ht : P.underlying t = some (.slice e)) (hi : P.info? e = some i) (hz : i.zero = some z) (hsize : i.size = size) (hby : i.bytes = bytes) (hzs : z.cells.size = size) (hsz : 0 < size)
    (en : α → List Value) (hen : ∀ x, (en x).length = size) (hone : ∀ x, ∀ u ∈ en x, u.oneCell' = true) (v0 vx : Value) (l : List α) (hown : OwnL wr base e size en v0 []) (hr : RdL wr size en vx l)
    (hb : base ≤ wr.heap.size) (hl : l.length ≤ 1099511627776) (hbytes : bytes ≤ 64) :
    ∃ v' w', (Builtin.append_ #[t, t] ty #[v0, vx]).run P wr = .ok v' w' ∧ OwnL w' base e size en v' l ∧ wr.grownBy w' v0.ownBlock ∧ (v'.ownBlock = v0.ownBlock ∨ v'.ownBlock = some wr.heap.size) := by
  obtain ⟨A, c, rfl, hlc, hcm, hrd⟩ := hr
  have hown0 : wr.ownsRow base e size v0 0 [] := hown
  have hbt : (0 + l.length) * bytes ≤ 140737488355328 := by
    calc (0 + l.length) * bytes ≤ 1099511627776 * 64 := Nat.mul_le_mul (by omega) hbytes
      _ ≤ 140737488355328 := by decide
  rcases A with _ | ad
  · have hl0 : l = [] := by
      rcases l with _ | ⟨y, r⟩
      · rfl
      · obtain ⟨_, _, hA, _⟩ := hrd (by simp); cases hA
    subst hl0
    obtain ⟨ao, n, cap, rfl, hn⟩ : ∃ ao n cap, v0 = .slice ao n cap ∧ n ≤ cap := by
      rcases hown0.2 with ⟨rfl, _⟩ | ⟨g, cap, cur, rfl, _, _, hnc, _⟩
      · exact ⟨none, 0, 0, rfl, Nat.le_refl _⟩
      · exact ⟨_, 0, cap, rfl, hnc⟩
    exact ⟨_, _, run_append_none (P := P) wr t ty e i ht hi ao n cap c hn, hown, grown_refl _ _, .inl rfl⟩
  · obtain ⟨v', w', hrun, ho, hg, _, hat⟩ := Go.run_append_own_at (P := P) wr base t ty e i z size bytes ht hi hz hsize hby hzs hsz v0 0 [] hown0 ad l.length c (l.flatMap en) (flat_len hen l) (by
      intro j u hj
      have hl0 : 0 < l.length := by
        rcases l with _ | ⟨y, r⟩
        · simp at hj
        · simp
      obtain ⟨g, o', hA, hg, hc⟩ := hrd hl0
      cases hA
      have e1 : (⟨g, o', none⟩ : Addr).add j = ⟨g, o' + j, none⟩ := by unfold Addr.add; split <;> simp_all
      rw [e1]
      have := flat_read (w := wr) (g := g) (o := o') hen hsz (l := l) (k := 0) (fun i x hx j u hu => by simpa using hc i x hx j u hu) hj
      simpa using this) (by
      intro u hu
      obtain ⟨y, _, hy⟩ := List.mem_flatMap.1 hu
      exact hone y u hy) (by unfold maxLen; omega) hbt hb
    refine ⟨v', w', hrun, ?_, hg, hat⟩
    have : w'.ownsRow base e size v' (0 + l.length) ([] ++ l.flatMap en) := ho
    simpa [OwnL] using this
/-- the same at a step of a region that draws its order -/
theorem step_copy {α : Type} {ops : Array Oper} {o : Oper} {a : Act} {K : Act → World → Prop} {Q : Exit → Act → World → Prop} {E : Prop} {wr : World} (hgd : o.guard = none) (s x : Operand) (t : TypeId)
    (ho : o.op = .call { callee := .builtin .append, args := #[s, x], argTypes := #[t, t] }) (base : Nat) (e : TypeId) (i : TypeInfo) (z : Value) (size bytes : Nat)
    (ht : P.underlying t = some (.slice e)) (hi : P.info? e = some i) (hz : i.zero = some z) (hsize : i.size = size) (hby : i.bytes = bytes) (hzs : z.cells.size = size) (hsz : 0 < size)
    (en : α → List Value) (hen : ∀ x, (en x).length = size) (hone : ∀ x, ∀ u ∈ en x, u.oneCell' = true) (v0 vx : Value) (l : List α) (hs : a.eval s = v0) (hown : OwnL wr base e size en v0 []) (hx : a.eval x = vx) (hr : RdL wr size en vx l)
    (hb : base ≤ wr.heap.size) (hl : l.length ≤ 1099511627776) (hbytes : bytes ≤ 64)
    (h : ∀ v' w', OwnL w' base e size en v' l → wr.grownBy w' v0.ownBlock → (v'.ownBlock = v0.ownBlock ∨ v'.ownBlock = some wr.heap.size) → K (a.put o.dst v') w') :
    if Region.wanted o (yielded ops a.tmps) = true then Oper.wp P o a wr K Q else E := by
  have hw : Region.wanted o (yielded ops a.tmps) = true := by simp [Region.wanted, hgd]
  rw [if_pos hw]
  obtain ⟨v', w', hrun, h2, h3, h4⟩ := run_copy (P := P) wr t o.type base e i z size bytes ht hi hz hsize hby hzs hsz en hen hone v0 vx l hown hr hb hl hbytes
  unfold Oper.wp execOp
  simp only [ho, resolve, invoke, builtin, Sem.run_bind, Sem.run_pure, Result.andThen_ok, List.map_toArray, List.map_cons, List.map_nil, hs, hx, hrun]
  exact h v' w' h2 h3 h4
/-- 'append(out, x)', and where the new slice lies -/
theorem push_law_at {α : Type} {ops : Array Oper} {rest : List Oper} {o : Oper} {a : Act} {Q : Exit → Act → World → Prop} {wr : World} (hgd : o.guard = none) (s x : Operand) (t : TypeId)
    (ho : o.op = .call { callee := .builtin .append, args := #[s, x], argTypes := #[t, t] }) (base : Nat) (e : TypeId) (i : TypeInfo) (z : Value) (size bytes : Nat)
    (ht : P.underlying t = some (.slice e)) (hi : P.info? e = some i) (hz : i.zero = some z) (hsize : i.size = size) (hby : i.bytes = bytes) (hzs : z.cells.size = size) (hsz : 0 < size)
    (en : α → List Value) (v : Value) (l : List α) (y : α) (hs : a.eval s = v) (hown : OwnL wr base e size en v l) (hx : a.eval x = .slice (some ⟨wr.heap.size, 0, none⟩) 1 1)
    (hlen : (en y).length = size) (hone : ∀ u ∈ en y, u.oneCell' = true) (hb' : base ≤ wr.heap.size) (hn : l.length < 1099511627776) (hbytes : bytes ≤ 64)
    (h : ∀ v' w', OwnL w' base e size en v' (l ++ [y]) → (wr.alloc (.cells (en y).toArray e)).grownBy w' v.ownBlock → (v'.ownBlock = v.ownBlock ∨ v'.ownBlock = some (wr.heap.size + 1)) → wpList P ops Q rest (a.put o.dst v') w') :
    wpList P ops Q (o :: rest) a (wr.alloc (.cells (en y).toArray e)) := by
  refine wpList_append_own_at _ hgd s x t ho base e i z size bytes ht hi hz hsize hby hzs hsz v l.length (l.flatMap en) hs (World.ownsRow.alloc hown _) ⟨wr.heap.size, 0, none⟩ 1 1 (en y) hx (by omega) ?_ hone (by unfold maxLen; omega) ?_ (by simp; omega) ?_
  · intro j u hj
    have e1 : (⟨wr.heap.size, 0, none⟩ : Addr).add j = ⟨wr.heap.size, j, none⟩ := by unfold Addr.add; split <;> simp_all
    rw [e1, cell_of_row _ wr.heap.size j (en y).toArray e (0, 0) (heap_alloc_new wr _)]
    simpa using hj
  · calc (l.length + 1) * bytes ≤ 1099511627776 * 64 := Nat.mul_le_mul (by omega) hbytes
      _ ≤ 140737488355328 := by decide
  · intro v' w' hown' hg _ hat
    exact h v' w' (OwnL.snoc hown') hg (by simpa using hat)
end
theorem one_cell (c : Pu.CellD) : ∀ u ∈ cellEn c, u.oneCell' = true := by simp [cellEn, Value.oneCell']
theorem one_layer (c : Pu.LayerD) : ∀ u ∈ layerEn c, u.oneCell' = true := by simp [layerEn, Value.oneCell']
end Go.Proofs.Ytnabpefjcgehiaa
