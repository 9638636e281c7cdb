/- The program's own table of names: what the condition says of it. -/
import Derived.Test.YtfmjcmhofjibmaaDoorLib
import Derived.OpenShut
import Derived.MakeChecks
import Derived.LaidMore
namespace Go.Proofs.YtfmjcmhofjibmaaDoor
open Go.ChangeShapes Go.WideShapes Go.ChangeAt Go.RowKit
set_option maxRecDepth 100000
def Pu.abL : List (List UInt8) := [[114, 117, 110], [107, 101, 101, 112], [116, 101, 108, 108], [104, 101, 97, 114], [115, 97, 118, 101], [104, 101, 97, 108]]
/-- the table lies in memory -/
def AbVars (w : World) : Prop := ∀ (j : Nat) (b : List UInt8), Pu.abL[j]? = some b → ∃ s : ByteArray, s.toList = b ∧ s.size ≤ maxLen ∧ w.cell? ⟨0, j, none⟩ = some (.string s)
theorem ab_g : Tryd.prog.globalNamed "loop.example/g03016/impl.abilityNames" = some 0 := by kernel_rfl
theorem ab_t : (Tryd.prog.globals[0]?).map (·.type) = some 74 := by kernel_rfl
theorem ab_c : Tryd.prog.cellsOf 9 = 1 := by kernel_rfl
theorem AbVars.below {B : Nat} {w w' : World} (h : AbVars w) (hb : Below B w w') (hB : 0 < B) : AbVars w' := fun j b hj => by
  obtain ⟨s, h1, h2, h3⟩ := h j b hj
  exact ⟨s, h1, h2, (hb.cell (p := ⟨0, j, none⟩) hB).trans h3⟩
theorem AbVars.lt {w : World} (h : AbVars w) : 0 < w.heap.size := by
  obtain ⟨s, _, _, h3⟩ := h 0 _ rfl
  rcases Nat.lt_or_ge 0 w.heap.size with hlt | hge
  · exact hlt
  · simp [World.cell?, Array.getElem?_eq_none hge] at h3
theorem ab_of {W : World} {fuel : Nat} {cs : Array Value} {p : List MemPlace} (hv : W.var? Tryd.prog "loop.example/g03016/impl.abilityNames" = some cs)
    (hd : DataW.trod (fun _ => ()) Tryd.prog W 0 (fun _ => true) false fuel 74 cs.toList = some (Rows.laid_loop_example_g03016_impl_abilityNames, p)) : AbVars W := by
  obtain ⟨xs, m, rfl, hx, hlen, hn, hel⟩ := DataW.trod_array Tryd.underlying74 hd
  simp only [Prod.mk.injEq, Rows.laid_loop_example_g03016_impl_abilityNames, DataW.agg.injEq] at hx
  intro j b hj
  have hj6 : j < 6 := (List.getElem?_eq_some_iff.1 hj).1
  have hxs : (xs.map (·.1))[j]? = (Pu.abL.map fun b => (DataW.lit (.string b) : DataW Unit))[j]? := by rw [← hx.1]; rfl
  rw [List.getElem?_map, List.getElem?_map, hj] at hxs
  have hxj : ∃ y, xs[j]? = some y := ⟨xs[j]'(by omega), List.getElem?_eq_getElem (by omega)⟩
  obtain ⟨y, hy⟩ := hxj
  have h1 := hel j hj6
  rw [hy, ab_c, Nat.mul_one] at h1
  obtain ⟨s, e1, e2, hs⟩ := DataW.trod_string Tryd.underlying9 h1
  rw [hy] at hxs
  simp only [Option.map_some, Option.some.injEq, e2, DataW.lit.injEq, Lit.string.injEq] at hxs
  refine ⟨s, by rw [Lib.toList_data]; exact hxs, hs, ?_⟩
  rw [World.var?_cell ab_g hv j]
  have h2 : (cs.toList.drop j)[0]? = some (.string s) := by
    have := congrArg (·[0]?) e1
    simpa [List.getElem?_take] using this
  simpa using h2
theorem ab_of_laid {W : World} (h : laidMetH Tryd.prog [("loop.example/g03016/impl.abilityNames", Rows.laid_loop_example_g03016_impl_abilityNames)] W) : AbVars W := by
  rw [MakeChecks.laidMetH_plain _ _ _ (by kernel_rfl)] at h
  obtain ⟨ps, ⟨g0, t0, cs0, f0, p0, q0, hg0, ht0, hv0, hd0, _, _⟩, _, _⟩ := h
  obtain rfl := Option.some.inj (ab_g.symm.trans hg0)
  obtain rfl := Option.some.inj (ab_t.symm.trans ht0)
  exact ab_of hv0 hd0
end Go.Proofs.YtfmjcmhofjibmaaDoor
