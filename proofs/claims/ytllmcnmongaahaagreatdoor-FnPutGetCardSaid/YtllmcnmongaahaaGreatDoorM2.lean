/- Merged texts of this repo: IKeepPre, CoreGood. -/
import Derived.Test.YtllmcnmongaahaaGreatDoorCoreKeep
import Derived.Test.YtllmcnmongaahaaGreatDoorCore2
import Derived.Test.YtllmcnmongaahaaGreatDoorM1
/- Contracts: what the reference's calls do to a core (appending; parts of slices). Written by wip/tools/keepgen.py. -/
namespace Go.Proofs.YtllmcnmongaahaaGreatDoor
open Go.ChangeShapes Go.WideShapes Go.ChangeAt Go.RowKit
set_option maxRecDepth 100000
set_option linter.unusedVariables false
section
variable {P : Program}
theorem run_app {α : Type} (wr : World) (t ty : TypeId) (base : Nat) (e : TypeId) (i : TypeInfo) (z : Value) (size bytes : Nat)
    (ht : P.underlying t = some (.slice e)) (hi : P.info? e = some i) (hz : i.zero = some z) (hsize : i.size = size) (hby : i.bytes = bytes) (hzs : z.cells.size = size) (hsz : 0 < size)
    (en : α → List Value) (hen : ∀ x, (en x).length = size) (hone : ∀ x, ∀ u ∈ en x, u.oneCell' = true) (v0 vx : Value) (l0 l : List α) (hown : OwnL wr base e size en v0 l0) (hr : RdL wr size en vx l)
    (hb : base ≤ wr.heap.size) (hl : l0.length + l.length ≤ 1099511627776) (hbytes : bytes ≤ 64) :
    ∃ v' w', (Builtin.append_ #[t, t] ty #[v0, vx]).run P wr = .ok v' w' ∧ OwnL w' base e size en v' (l0 ++ l) ∧ wr.grownBy w' v0.ownBlock := by
  obtain ⟨A, c, rfl, hlc, hcm, hrd⟩ := hr
  have hown0 : wr.ownsRow base e size v0 l0.length (l0.flatMap en) := hown
  have hbt : (l0.length + l.length) * bytes ≤ 140737488355328 := by
    calc (l0.length + l.length) * bytes ≤ 1099511627776 * 64 := Nat.mul_le_mul (by omega) hbytes
      _ ≤ 140737488355328 := by decide
  rcases A with _ | ad
  · have hl0 : l = [] := by
      rcases l with _ | ⟨y, r⟩
      · rfl
      · obtain ⟨_, _, hA, _⟩ := hrd (by simp); cases hA
    subst hl0
    obtain ⟨ao, n, cap, rfl, hn⟩ : ∃ ao n cap, v0 = .slice ao n cap ∧ n ≤ cap := by
      rcases hown0.2 with ⟨rfl, _⟩ | ⟨g, cap, cur, rfl, _, _, hnc, _⟩
      · exact ⟨none, 0, 0, rfl, Nat.le_refl _⟩
      · exact ⟨_, _, cap, rfl, hnc⟩
    exact ⟨_, _, run_append_none (P := P) wr t ty e i ht hi ao n cap c hn, by simpa using hown, grown_refl _ _⟩
  · obtain ⟨v', w', hrun, ho, hg, _, _⟩ := Go.run_append_own_at (P := P) wr base t ty e i z size bytes ht hi hz hsize hby hzs hsz v0 l0.length (l0.flatMap en) hown0 ad l.length c (l.flatMap en) (flat_len hen l) (by
      intro j u hj
      have hl0 : 0 < l.length := by
        rcases l with _ | ⟨y, r⟩
        · simp at hj
        · simp
      obtain ⟨g, o', hA, hg, hc⟩ := hrd hl0
      cases hA
      have e1 : (⟨g, o', none⟩ : Addr).add j = ⟨g, o' + j, none⟩ := by unfold Addr.add; split <;> simp_all
      rw [e1]
      have := flat_read (w := wr) (g := g) (o := o') hen hsz (l := l) (k := 0) (fun i x hx j u hu => by simpa using hc i x hx j u hu) hj
      simpa using this) (by
      intro u hu
      obtain ⟨y, _, hy⟩ := List.mem_flatMap.1 hu
      exact hone y u hy) (by unfold maxLen; omega) hbt hb
    exact ⟨v', w', hrun, OwnL.app ho, hg⟩
/-- 'append(out, xs...)' at a step of a region that draws its order -/
theorem step_app {α : Type} {ops : Array Oper} {o : Oper} {a : Act} {K : Act → World → Prop} {Q : Exit → Act → World → Prop} {E : Prop} {wr : World} (hgd : o.guard = none) (s x : Operand) (t : TypeId)
    (ho : o.op = .call { callee := .builtin .append, args := #[s, x], argTypes := #[t, t] }) (base : Nat) (e : TypeId) (i : TypeInfo) (z : Value) (size bytes : Nat)
    (ht : P.underlying t = some (.slice e)) (hi : P.info? e = some i) (hz : i.zero = some z) (hsize : i.size = size) (hby : i.bytes = bytes) (hzs : z.cells.size = size) (hsz : 0 < size)
    (en : α → List Value) (hen : ∀ x, (en x).length = size) (hone : ∀ x, ∀ u ∈ en x, u.oneCell' = true) (v0 vx : Value) (l0 l : List α) (hs : a.eval s = v0) (hown : OwnL wr base e size en v0 l0) (hx : a.eval x = vx) (hr : RdL wr size en vx l)
    (hb : base ≤ wr.heap.size) (hl : l0.length + l.length ≤ 1099511627776) (hbytes : bytes ≤ 64)
    (h : ∀ v' w', OwnL w' base e size en v' (l0 ++ l) → wr.grownBy w' v0.ownBlock → K (a.put o.dst v') w') :
    if Region.wanted o (yielded ops a.tmps) = true then Oper.wp P o a wr K Q else E := by
  have hw : Region.wanted o (yielded ops a.tmps) = true := by simp [Region.wanted, hgd]
  rw [if_pos hw]
  obtain ⟨v', w', hrun, h2, h3⟩ := run_app (P := P) wr t o.type base e i z size bytes ht hi hz hsize hby hzs hsz en hen hone v0 vx l0 l hown hr hb hl hbytes
  unfold Oper.wp execOp
  simp only [ho, resolve, invoke, builtin, Sem.run_bind, Sem.run_pure, Result.andThen_ok, List.map_toArray, List.map_cons, List.map_nil, hs, hx, hrun]
  exact h v' w' h2 h3
end
/-- parts of a readable slice -/
theorem rd_low {α : Type} {w : World} {size : Nat} {en : α → List Value} {A : Option Addr} {n c : Nat} {l : List α} (h : RdL w size en (.slice A n c) l) {b : Nat} (hb : b ≤ n) : RdL w size en (.slice A b c) (l.take b) := by
  obtain ⟨A', c', e, h1, h2, h3⟩ := h
  cases e
  have hl : (l.take b).length = b := by rw [List.length_take]; omega
  refine ⟨A, c, by rw [hl], by omega, by omega, fun hp => ?_⟩
  obtain ⟨g', o', e', hgs, hc⟩ := h3 (by omega)
  refine ⟨g', o', e', hgs, fun i x hx j u hu => ?_⟩
  rw [List.getElem?_take] at hx
  split at hx
  · exact hc i x hx j u hu
  · cases hx
theorem rd_high {α : Type} {w : World} {size : Nat} {en : α → List Value} {g o n c : Nat} {l : List α} (h : RdL w size en (.slice (some ⟨g, o, none⟩) n c) l) {b : Nat} (hb : b ≤ n) : RdL w size en (.slice (some ⟨g, o + b * size, none⟩) (n - b) (c - b)) (l.drop b) := by
  obtain ⟨A', c', e, h1, h2, h3⟩ := h
  cases e
  have hl : (l.drop b).length = l.length - b := by rw [List.length_drop]
  refine ⟨some ⟨g, o + b * size, none⟩, c - b, by rw [hl], by omega, by omega, fun hp => ?_⟩
  obtain ⟨g', o', e', hgs, hc⟩ := h3 (by omega)
  cases e'
  refine ⟨g, o + b * size, rfl, hgs, fun i x hx j u hu => ?_⟩
  rw [List.getElem?_drop] at hx
  have := hc (b + i) x hx j u hu
  rwa [show o + (b + i) * size + j = o + b * size + i * size + j by rw [Nat.add_mul]; omega] at this
theorem rd_cell1 {w : World} (y : Pu.CellD) : RdL (w.alloc (.cells (cellEn y).toArray 63 : Obj)) 2 cellEn (.slice (some ⟨w.heap.size, 0, none⟩) 1 1) [y] := by
  refine ⟨_, 1, rfl, Nat.le_refl _, by decide, fun _ => ⟨w.heap.size, 0, rfl, by simp, fun i x hx j u hu => ?_⟩⟩
  rcases i with _ | i
  · have e : y = x := by simpa using hx
    subst e
    rw [cell_of_row _ w.heap.size _ _ _ (0, 0) (heap_new rfl)]
    simpa using hu
  · simp at hx
theorem rd_empty {α : Type} {w : World} {size : Nat} {en : α → List Value} (A : Option Addr) (n c : Nat) (_u : Unit) (hn : n = 0) (hc : c ≤ maxLen) : RdL w size en (.slice A n c) ([] : List α) := by
  subst hn
  exact ⟨A, c, rfl, Nat.zero_le _, hc, fun h => absurd h (by simp)⟩
/-- but for block G and the row of the slice, what was there stays -/
def Only (G : Nat) (r : Option Nat) (w w' : World) : Prop := ∀ g, g < w.heap.size → g ≠ G → some g ≠ r → w'.heap[g]? = w.heap[g]?
theorem only_below {G : Nat} {r : Option Nat} {w w' : World} (h : Below w.heap.size w w') : Only G r w w' := fun g hg _ _ => h.block g hg
theorem only_set {G : Nat} {r : Option Nat} {w w' : World} (h : Only G r w w') {a : Addr} (ha : a.block = G ∨ some a.block = r ∨ w.heap.size ≤ a.block) (u : Value) : Only G r w (w'.setCell a u) := by
  intro g hg h1 h2
  have hne : g ≠ a.block := by
    intro e
    rcases ha with ha | ha | ha
    · exact h1 (e.trans ha)
    · exact h2 (by rw [e]; exact ha)
    · omega
  exact (Below.heap_setCell w' a u g hne).trans (h g hg h1 h2)
theorem own_eq {α : Type} {w : World} {base : Nat} {e : TypeId} {size : Nat} {en : α → List Value} {v : Value} {l l' : List α} (h : OwnL w base e size en v l) (he : l = l') : OwnL w base e size en v l' := he ▸ h
theorem below_none {w w' : World} {row : Option Nat} (h : w.grownBy w' row) (hr : row = none) : Below w.heap.size w w' := by
  subst hr
  exact ⟨h.os, h.tape, h.output, h.size, fun k hk => h.block k hk (by simp)⟩
end Go.Proofs.YtllmcnmongaahaaGreatDoor
/- Contracts: what the reference's calls do to a core (what a valid core is known by). Written by wip/tools/coregen.py. -/
namespace Go.Proofs.YtllmcnmongaahaaGreatDoor
open Go.ChangeShapes Go.WideShapes Go.ChangeAt Go.RowKit
set_option maxRecDepth 100000
set_option linter.unusedVariables false
theorem good_of {p : Pu.CoreD} (hp : Pu.coreB p = true) : Pu.cellsB p.cells = true ∧ 0 ≤ p.count ∧ p.count ≤ 999 ∧ p.cells.length ≤ 4 ∧ ∀ c ∈ p.cells, CellD.wf c := by
  have g := Pu.good_iff'.1 hp
  have hc := g.cells
  have hn := g.count
  simp only [Pu.isNum, Bool.and_eq_true, decide_eq_true_eq] at hn
  have hc2 := hc
  simp only [Pu.cellsB, Bool.and_eq_true, decide_eq_true_eq] at hc2
  refine ⟨hc, hn.1, hn.2, hc2.1, fun c hm => ?_⟩
  obtain ⟨h1, h2⟩ := Pu.cells_each hc2.2 c hm
  have h3 := Pu.name_8 h1
  simp only [Pu.isNum, Bool.and_eq_true, decide_eq_true_eq] at h2
  exact ⟨by unfold maxLen; omega, WalkArith.wf_i64 (by omega)⟩
end Go.Proofs.YtllmcnmongaahaaGreatDoor
