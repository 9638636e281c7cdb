/- What a condition that lists variables of the library says of the world. -/
import Derived.Test.YtabbgabdbkbjcaaDoorShelf
import Derived.Test.YtabbgabdbkbjcaaDoorLaidR
import Derived.Test.YtabbgabdbkbjcaaDoorRows
import Derived.Lib.ItoaNum
namespace Go.Proofs.YtabbgabdbkbjcaaDoor
open Go.ChangeShapes Go.WideShapes Go.ChangeAt Go.RowKit
set_option maxRecDepth 100000
/-- the library's table of powers of ten -/
def Pow10 (w : World) : Prop := Lib.TabIs Tryd.prog w "internal/strconv.uint64pow10" .u64 Lib.pow10Tab
theorem pow10_g : Tryd.prog.globalNamed "internal/strconv.uint64pow10" = some 5 := by kernel_rfl
theorem pow10_t : (Tryd.prog.globals[5]?).map (·.type) = some 145 := by kernel_rfl
theorem pow10_d : (Rows.laid_internal_strconv_uint64pow10 : DataW Unit) = Lib.tabData .u64 Lib.pow10Tab := by kernel_rfl
theorem pow10_of {w : World} (h : VarSays Tryd.prog w "internal/strconv.uint64pow10" Rows.laid_internal_strconv_uint64pow10) : Pow10 w := by
  obtain ⟨g, t, cs, fuel, p, hg, ht, hv, hd⟩ := h
  obtain rfl := Option.some.inj (pow10_g.symm.trans hg)
  obtain rfl := Option.some.inj (pow10_t.symm.trans ht)
  rw [pow10_d] at hd
  unfold Pow10 Lib.TabIs
  rw [hv, ← Lib.cells_of_tab Tryd.underlying145 Tryd.underlying105 (by kernel_rfl) (by kernel_rfl) hd]
theorem Pow10.lt {w : World} (h : Pow10 w) : 5 < w.heap.size := by
  have h1 := h.cell pow10_g 0 (by decide)
  rcases Nat.lt_or_ge 5 w.heap.size with hlt | hge
  · exact hlt
  · simp [World.cell?, Array.getElem?_eq_none hge] at h1
theorem Pow10.below {B : Nat} {w w' : World} (h : Pow10 w) (hb : Below B w w') (hB : 5 < B) : Pow10 w' := by
  have e : w'.var? Tryd.prog "internal/strconv.uint64pow10" = w.var? Tryd.prog "internal/strconv.uint64pow10" := by
    unfold World.var?
    rw [pow10_g]
    simp [hb.block _ hB]
  exact e.trans h
/-- the library's variable of syntax errors holds an error -/
def ErrSyn (w : World) : Prop := ∃ te pe, w.cell? ⟨1, 0, none⟩ = some (.iface te pe)
theorem errsyn_g : Tryd.prog.globalNamed "strconv.ErrSyntax" = some 1 := by kernel_rfl
theorem errsyn_t : (Tryd.prog.globals[1]?).map (·.type) = some 73 := by kernel_rfl
theorem errsyn_of {w : World} (h : VarSays Tryd.prog w "strconv.ErrSyntax" Rows.laid_strconv_ErrSyntax) : ErrSyn w := by
  obtain ⟨g, t, cs, fuel, p, hg, ht, hv, hd⟩ := h
  obtain rfl := Option.some.inj (errsyn_g.symm.trans hg)
  obtain rfl := Option.some.inj (errsyn_t.symm.trans ht)
  obtain ⟨u, v, e⟩ := cs_of_iface Tryd.underlying73 hd
  refine ⟨u, v, ?_⟩
  rw [World.var?_cell errsyn_g hv 0]
  have h1 : cs[0]? = some (.iface u v) := by rw [← Array.getElem?_toList, e]; rfl
  exact h1
theorem ErrSyn.lt {w : World} (h : ErrSyn w) : 1 < w.heap.size := by
  obtain ⟨te, pe, h1⟩ := h
  rcases Nat.lt_or_ge 1 w.heap.size with hlt | hge
  · exact hlt
  · simp [World.cell?, Array.getElem?_eq_none hge] at h1
theorem ErrSyn.below {B : Nat} {w w' : World} (h : ErrSyn w) (hb : Below B w w') (hB : 1 < B) : ErrSyn w' := by
  obtain ⟨te, pe, h1⟩ := h
  exact ⟨te, pe, (hb.cell (p := ⟨1, 0, none⟩) hB).trans h1⟩
/-- the library's limit holds a number -/
def MaxC (w : World) : Prop := ∃ m, w.cell? ⟨0, 0, none⟩ = some (.int .i64 m)
theorem maxc_of {w : World} (h : w.ShapedOpen Tryd.prog) : MaxC w := Tryd.laysM145.s1_3 w h
theorem MaxC.lt {w : World} (h : MaxC w) : 0 < w.heap.size := by
  obtain ⟨m, h1⟩ := h
  rcases Nat.lt_or_ge 0 w.heap.size with hlt | hge
  · exact hlt
  · simp [World.cell?, Array.getElem?_eq_none hge] at h1
theorem MaxC.below {B : Nat} {w w' : World} (h : MaxC w) (hb : Below B w w') (hB : 0 < B) : MaxC w' := by
  obtain ⟨m, h1⟩ := h
  exact ⟨m, (hb.cell (p := ⟨0, 0, none⟩) hB).trans h1⟩
end Go.Proofs.YtabbgabdbkbjcaaDoor
