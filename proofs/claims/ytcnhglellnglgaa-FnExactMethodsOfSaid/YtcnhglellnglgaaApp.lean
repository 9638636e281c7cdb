/- 'append(out, xs...)': out is the call's own. -/
import Derived.Test.YtcnhglellnglgaaCopy
namespace Go.Proofs.Ytcnhglellnglgaa
open Go.ChangeShapes Go.WideShapes Go.ChangeAt Go.RowKit
set_option maxRecDepth 100000
section
variable {P : Program}
theorem app_law {α : Type} {ops : Array Oper} {rest : List Oper} {o : Oper} {a : Act} {Q : Exit → Act → World → Prop} {wr : World} (hgd : o.guard = none) (s x : Operand) (t : TypeId)
    (ho : o.op = .call { callee := .builtin .append, args := #[s, x], argTypes := #[t, t] }) (base : Nat) (e : TypeId) (i : TypeInfo) (z : Value) (size bytes : Nat)
    (ht : P.underlying t = some (.slice e)) (hi : P.info? e = some i) (hz : i.zero = some z) (hsize : i.size = size) (hby : i.bytes = bytes) (hzs : z.cells.size = size) (hsz : 0 < size)
    (en : α → List Value) (hen : ∀ x, (en x).length = size) (hone : ∀ x, ∀ u ∈ en x, u.oneCell' = true) (v0 vx : Value) (l0 l : List α) (hs : a.eval s = v0) (hown : OwnL wr base e size en v0 l0) (hx : a.eval x = vx) (hr : RdL wr size en vx l)
    (hb : base ≤ wr.heap.size) (hl : l0.length + l.length ≤ 1099511627776) (hbytes : bytes ≤ 64)
    (h : ∀ v' w', OwnL w' base e size en v' (l0 ++ l) → wr.grownBy w' v0.ownBlock → wpList P ops Q rest (a.put o.dst v') w') :
    wpList P ops Q (o :: rest) a wr := by
  obtain ⟨A, c, rfl, hlc, hcm, hrd⟩ := hr
  have hown0 : wr.ownsRow base e size v0 l0.length (l0.flatMap en) := hown
  have hbt : (l0.length + l.length) * bytes ≤ 140737488355328 := by
    calc (l0.length + l.length) * bytes ≤ 1099511627776 * 64 := Nat.mul_le_mul (by omega) hbytes
      _ ≤ 140737488355328 := by decide
  rcases A with _ | ad
  · have hl0 : l = [] := by
      rcases l with _ | ⟨y, r⟩
      · rfl
      · obtain ⟨_, _, hA, _⟩ := hrd (by simp); cases hA
    subst hl0
    obtain ⟨ao, n, cap, rfl, hn⟩ : ∃ ao n cap, v0 = .slice ao n cap ∧ n ≤ cap := by
      rcases hown0.2 with ⟨rfl, _⟩ | ⟨g, cap, cur, rfl, _, _, hnc, _⟩
      · exact ⟨none, 0, 0, rfl, Nat.le_refl _⟩
      · exact ⟨_, _, cap, rfl, hnc⟩
    refine wpList_plain hgd fun K hK => ?_
    unfold Oper.wp execOp
    simp only [ho, resolve, invoke, builtin, Sem.run_bind, Sem.run_pure, Result.andThen_ok, List.map_toArray, List.map_cons, List.map_nil, hs, hx]
    have hrun := run_append_none (P := P) wr t o.type e i ht hi ao n cap c hn
    simp only [List.length_nil, hrun, Result.andThen_ok]
    exact hK _ _ (h _ _ (by simpa using hown) (grown_refl _ _))
  · refine wpList_append_own _ hgd s x t ho base e i z size bytes ht hi hz hsize hby hzs hsz v0 l0.length (l0.flatMap en) hs hown0 ad l.length c (l.flatMap en) hx (flat_len hen l) ?_ ?_ (by unfold maxLen; omega) hbt hb ?_
    · intro j u hj
      have hl0 : 0 < l.length := by
        rcases l with _ | ⟨y, r⟩
        · simp at hj
        · simp
      obtain ⟨g, o', hA, hg, hc⟩ := hrd hl0
      cases hA
      have e1 : (⟨g, o', none⟩ : Addr).add j = ⟨g, o' + j, none⟩ := by unfold Addr.add; split <;> simp_all
      rw [e1]
      have := flat_read (w := wr) (g := g) (o := o') hen hsz (l := l) (k := 0) (fun i x hx j u hu => by simpa using hc i x hx j u hu) hj
      simpa using this
    · intro u hu
      obtain ⟨y, _, hy⟩ := List.mem_flatMap.1 hu
      exact hone y u hy
    · intro v' w' hown' hg _
      refine h v' w' ?_ hg
      exact OwnL.app hown'
end
end Go.Proofs.Ytcnhglellnglgaa
