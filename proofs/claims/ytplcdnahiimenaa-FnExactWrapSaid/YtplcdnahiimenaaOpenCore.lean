/- Structs that a law takes, opened. -/
import Derived.Test.YtplcdnahiimenaaOpen
import Derived.Test.YtplcdnahiimenaaCore
namespace Go.Proofs.Ytplcdnahiimenaa
open Go.ChangeShapes Go.WideShapes Go.ChangeAt Go.RowKit
set_option maxRecDepth 100000
section
variable {H : Type} {enc : TypeId × Value → H} {W : World}
/-- a slice in a field -/
theorem open_field {α : Type} {t e : TypeId} {size n : Nat} {c : Value} {y : DataW H × List MemPlace} (en : α → List Value) (ok : α → Prop) (hu : Try.prog.underlying t = some (.slice e)) (hc : Try.prog.cellsOf e = size) (hsz : 0 < size) (hlen : ∀ x, (en x).length = size)
    (hdec : ∀ n cs y, DataW.trod enc Try.prog W 0 (fun _ => true) true n e cs = some y → ∃ x, cs = en x ∧ ok x)
    (hf : DataW.trod enc Try.prog W 0 (fun _ => true) true n t [c] = some y) : ∃ l, RdL W size en c l ∧ ∀ x ∈ l, ok x := by
  obtain ⟨d, p⟩ := y
  rcases Go.Deep.open_slice hu hf with ⟨hcs, _⟩ | ⟨a, len', cap', m, n, D, Pl, hcs, _, hl, hm, hmm, _, hi⟩
  · have e : c = .slice none 0 0 := by simpa using hcs
    rw [e]
    exact ⟨[], RdL.nil _ _ _, by simp⟩
  · have e : c = .slice (some a) len' cap' := by simpa using hcs
    rw [e]
    simp only [if_true] at hmm
    rw [hc] at hi
    obtain ⟨l, hll, hq⟩ := list_of (Q := fun i x => W.cells? 0 (a.add (i * size)) size = some (en x) ∧ ok x) len' (fun i hil => by
      obtain ⟨cs', h1, h2⟩ := hi i (by omega)
      obtain ⟨x, rfl, hx⟩ := hdec _ _ _ h2
      exact ⟨x, h1, hx⟩)
    refine ⟨l, ⟨some a, cap', by rw [hll], by omega, hm, fun h0 => ?_⟩, fun x hx => ?_⟩
    · obtain ⟨hw0, _⟩ := hq 0 l[0] (List.getElem?_eq_getElem (by omega))
      obtain ⟨_, _, hat⟩ := World.cells?_some hw0
      have h00 := hat 0 (by omega)
      have hlt0 : 0 < (en l[0]).length := by rw [hlen]; exact hsz
      rw [List.getElem?_eq_getElem hlt0] at h00
      have ha : (a.add (0 * size)).add 0 = a := by simp [Addr.add]
      rw [ha] at h00
      obtain ⟨e1, e2⟩ := spot_none h00
      refine ⟨a.block, a.off, by rw [← e1], e2, fun i x hx j u hu => ?_⟩
      obtain ⟨hwi, _⟩ := hq i x hx
      obtain ⟨_, _, hat⟩ := World.cells?_some hwi
      have hj := hat j (by rw [← hlen x]; exact (List.getElem?_eq_some_iff.1 hu).1)
      rw [e1, add_lit, add_lit] at hj
      exact hj.trans hu
    · obtain ⟨i, hi, rfl⟩ := List.getElem_of_mem hx
      exact (hq i _ (List.getElem?_eq_getElem hi)).2
theorem cells_slice : Try.prog.cellsOf 53 = 1 := by kernel_rfl
theorem core_of {n : Nat} {cs : List Value} {y : DataW H × List MemPlace} (h : DataW.trod enc Try.prog W 0 (fun _ => true) true n 55 cs = some y) : ∃ p s, cs = [.string p.kind, .bool p.on, .bool p.broken, s, .int .i64 p.count] ∧ RdCore W (coreV p s) p := by
  obtain ⟨xs, m, _, _, hl, hx, hf⟩ := DataW.trod_struct Try.underlying55 h
  have hlen : cs.length = 5 := hl.trans (by kernel_rfl)
  match cs, hlen with
  | [c0, c1, c2, c3, c4], _ =>
    match xs, hx with
    | [y0, y1, y2, y3, y4], _ =>
      have h0 : DataW.trod enc Try.prog W 0 (fun _ => true) true m 9 [c0] = some y0 := by have := hf 0 _ rfl; simpa [cells_str] using this
      have h1 : DataW.trod enc Try.prog W 0 (fun _ => true) true m 4 [c1] = some y1 := by have := hf 1 _ rfl; simpa [cells_str, cells_bool] using this
      have h2 : DataW.trod enc Try.prog W 0 (fun _ => true) true m 4 [c2] = some y2 := by have := hf 2 _ rfl; simpa [cells_str, cells_bool] using this
      have h3 : DataW.trod enc Try.prog W 0 (fun _ => true) true m 53 [c3] = some y3 := by have := hf 3 _ rfl; simpa [cells_str, cells_bool, cells_slice] using this
      have h4 : DataW.trod enc Try.prog W 0 (fun _ => true) true m 3 [c4] = some y4 := by have := hf 4 _ rfl; simpa [cells_str, cells_bool, cells_slice, cells_int] using this
      obtain ⟨s, e0, _, hs⟩ := DataW.trod_string Try.underlying9 h0
      obtain ⟨b1, e1, _⟩ := DataW.trod_bool Try.underlying4 h1
      obtain ⟨b2, e2, _⟩ := DataW.trod_bool Try.underlying4 h2
      obtain ⟨l, hr, hw⟩ := open_field (size := 2) cellEn CellD.wf Try.underlying53 (by kernel_rfl) (by decide) (fun _ => rfl) (fun _ _ _ h => cell_of h) h3
      obtain ⟨n, e4, _, hn⟩ := DataW.trod_int Try.underlying3 h4
      simp only [List.cons.injEq, and_true] at e0 e1 e2 e4
      subst e0 e1 e2 e4
      exact ⟨⟨s, b1, b2, l, n⟩, c3, rfl, ⟨hs, hn⟩, c3, rfl, hr, hw⟩
theorem open_core {base : Nat} {v : Value} {d : DataW H} {p : List MemPlace} (hv : Value.okWide Try.prog W .any base 55 v) (h : DataW.Trod enc Try.prog W 0 (fun _ => true) true 55 v d p) : ∃ a, RdCore W v a := by
  obtain ⟨cs, rfl, _⟩ := okWide_struct Try.underlying55 hv
  obtain ⟨fuel, hf⟩ := h
  obtain ⟨p, s, e, hr⟩ := core_of hf
  have e' : cs = #[.string p.kind, .bool p.on, .bool p.broken, s, .int .i64 p.count] := by simpa [Value.cells, ← Array.toList_inj] using e
  rw [e']
  exact ⟨p, hr⟩
end
end Go.Proofs.Ytplcdnahiimenaa
