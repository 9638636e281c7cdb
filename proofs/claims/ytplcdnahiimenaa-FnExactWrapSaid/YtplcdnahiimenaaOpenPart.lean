/- Parts that a law takes, opened. -/
import Derived.Test.YtplcdnahiimenaaOpenCore
import Derived.Test.YtplcdnahiimenaaPart
namespace Go.Proofs.Ytplcdnahiimenaa
open Go.ChangeShapes Go.WideShapes Go.ChangeAt Go.RowKit
set_option maxRecDepth 100000
section
variable {H : Type} {enc : TypeId × Value → H} {W : World}
theorem layer_of {n : Nat} {cs : List Value} {y : DataW H × List MemPlace} (h : DataW.trod enc Try.prog W 0 (fun _ => true) true n 103 cs = some y) : ∃ c : Pu.LayerD, cs = layerEn c ∧ LayerD.wf c := by
  obtain ⟨xs, m, _, _, hl, hx, hf⟩ := DataW.trod_struct Try.underlying103 h
  have hlen : cs.length = 2 := hl.trans (by kernel_rfl)
  match cs, hlen with
  | [c0, c1], _ =>
    match xs, hx with
    | [y0, y1], _ =>
      have h0 : DataW.trod enc Try.prog W 0 (fun _ => true) true m 9 [c0] = some y0 := by have := hf 0 _ rfl; simpa [cells_str] using this
      have h1 : DataW.trod enc Try.prog W 0 (fun _ => true) true m 3 [c1] = some y1 := by have := hf 1 _ rfl; simpa [cells_str, cells_int] using this
      obtain ⟨s, e0, _, hs⟩ := DataW.trod_string Try.underlying9 h0
      obtain ⟨n, e1, _, hn⟩ := DataW.trod_int Try.underlying3 h1
      simp only [List.cons.injEq, and_true] at e0 e1
      subst e0 e1
      exact ⟨⟨s, n⟩, rfl, hs, hn⟩
theorem cells_core : Try.prog.cellsOf 55 = 5 := by kernel_rfl
theorem cells_layers : Try.prog.cellsOf 56 = 1 := by kernel_rfl
theorem part_of {n : Nat} {cs : List Value} {y : DataW H × List MemPlace} (h : DataW.trod enc Try.prog W 0 (fun _ => true) true n 58 cs = some y) : ∃ p s t, cs = [.string p.core.kind, .bool p.core.on, .bool p.core.broken, s, .int .i64 p.core.count, t] ∧ RdPart W (partV p s t) p := by
  obtain ⟨xs, m, _, _, hl, hx, hf⟩ := DataW.trod_struct Try.underlying58 h
  have hlen : cs.length = 6 := hl.trans (by kernel_rfl)
  match cs, hlen with
  | [c0, c1, c2, c3, c4, c5], _ =>
    match xs, hx with
    | [y0, y1], _ =>
      have h0 : DataW.trod enc Try.prog W 0 (fun _ => true) true m 55 [c0, c1, c2, c3, c4] = some y0 := by have := hf 0 _ rfl; simpa [cells_core] using this
      have h1 : DataW.trod enc Try.prog W 0 (fun _ => true) true m 56 [c5] = some y1 := by have := hf 1 _ rfl; simpa [cells_core, cells_layers] using this
      obtain ⟨p, s, e, hw, s', hv, hr⟩ := core_of h0
      obtain ⟨l, hr2, hw2⟩ := open_field (size := 2) layerEn LayerD.wf Try.underlying56 (by kernel_rfl) (by decide) (fun _ => rfl) (fun _ _ _ h => layer_of h) h1
      simp only [List.cons.injEq, and_true] at e
      obtain ⟨e0, e1, e2, e3, e4⟩ := e
      have hss : s = s' := by simp [coreV] at hv; exact hv
      rw [← hss] at hr
      subst e0 e1 e2 e3 e4
      exact ⟨⟨p, l⟩, c3, c5, rfl, hw, c3, c5, rfl, hr, hr2, hw2⟩
theorem open_part {base : Nat} {v : Value} {d : DataW H} {p : List MemPlace} (hv : Value.okWide Try.prog W .any base 58 v) (h : DataW.Trod enc Try.prog W 0 (fun _ => true) true 58 v d p) : ∃ a, RdPart W v a := by
  obtain ⟨cs, rfl, _⟩ := okWide_struct Try.underlying58 hv
  obtain ⟨fuel, hf⟩ := h
  obtain ⟨p, s, t, e, hr⟩ := part_of hf
  have e' : cs = #[.string p.core.kind, .bool p.core.on, .bool p.core.broken, s, .int .i64 p.core.count, t] := by simpa [Value.cells, ← Array.toList_inj] using e
  rw [e']
  exact ⟨p, hr⟩
end
end Go.Proofs.Ytplcdnahiimenaa
