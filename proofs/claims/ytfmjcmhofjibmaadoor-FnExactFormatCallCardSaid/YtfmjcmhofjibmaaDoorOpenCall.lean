/- Calls that a law takes, opened. -/
import Derived.Test.YtfmjcmhofjibmaaDoorOpen
import Derived.Test.YtfmjcmhofjibmaaDoorCall
namespace Go.Proofs.YtfmjcmhofjibmaaDoor
open Go.ChangeShapes Go.WideShapes Go.ChangeAt Go.RowKit
set_option maxRecDepth 100000
section
variable {H : Type} {enc : TypeId × Value → H} {W : World}
theorem call_of {n : Nat} {cs : List Value} {y : DataW H × List MemPlace} (h : DataW.trod enc Tryd.prog W 0 (fun _ => true) true n 25 cs = some y) : ∃ c : Pu.CallD, cs = callEn c ∧ CallD.wf c := by
  obtain ⟨xs, m, _, _, hl, hx, hf⟩ := DataW.trod_struct Tryd.underlying25 h
  have hlen : cs.length = 4 := hl.trans (by kernel_rfl)
  match cs, hlen with
  | [c0, c1, c2, c3], _ =>
    match xs, hx with
    | [y0, y1, y2, y3], _ =>
      have h0 : DataW.trod enc Tryd.prog W 0 (fun _ => true) true m 9 [c0] = some y0 := by have := hf 0 _ rfl; simpa [cells_str] using this
      have h1 : DataW.trod enc Tryd.prog W 0 (fun _ => true) true m 9 [c1] = some y1 := by have := hf 1 _ rfl; simpa [cells_str] using this
      have h2 : DataW.trod enc Tryd.prog W 0 (fun _ => true) true m 3 [c2] = some y2 := by have := hf 2 _ rfl; simpa [cells_str, cells_int] using this
      have h3 : DataW.trod enc Tryd.prog W 0 (fun _ => true) true m 9 [c3] = some y3 := by have := hf 3 _ rfl; simpa [cells_str, cells_int] using this
      obtain ⟨s, e0, _, hs⟩ := DataW.trod_string Tryd.underlying9 h0
      obtain ⟨k, e1, _, hk⟩ := DataW.trod_string Tryd.underlying9 h1
      obtain ⟨n, e2, _, hn⟩ := DataW.trod_int Tryd.underlying3 h2
      obtain ⟨t, e3, _, ht⟩ := DataW.trod_string Tryd.underlying9 h3
      simp only [List.cons.injEq, and_true] at e0 e1 e2 e3
      subst e0 e1 e2 e3
      exact ⟨⟨s, k, n, t⟩, rfl, hs, hk, hn, ht⟩
theorem open_call {base : Nat} {v : Value} {d : DataW H} {p : List MemPlace} (hv : Value.okWide Tryd.prog W .any base 25 v) (h : DataW.Trod enc Tryd.prog W 0 (fun _ => true) true 25 v d p) : ∃ a, IsCallV v a := by
  obtain ⟨cs, rfl, _⟩ := okWide_struct Tryd.underlying25 hv
  obtain ⟨fuel, hf⟩ := h
  obtain ⟨c, e, hw⟩ := call_of hf
  have e' : cs = #[.string c.method, .string c.key, .int .i64 c.value, .string c.text] := by simpa [Value.cells, callEn, ← Array.toList_inj] using e
  rw [e']
  exact ⟨c, hw, rfl⟩
end
end Go.Proofs.YtfmjcmhofjibmaaDoor
