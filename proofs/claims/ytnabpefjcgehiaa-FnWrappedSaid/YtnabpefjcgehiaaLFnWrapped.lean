/- FnWrapped: for every input the law returns true, and its arguments read afterwards as they read before. No condition besides those of the statement itself. -/
import Derived.Test.YtnabpefjcgehiaaM0
import Derived.Test.YtnabpefjcgehiaaDrawWrap
import Derived.Test.YtnabpefjcgehiaaWrapLaws
import Derived.Test.YtnabpefjcgehiaaWrap
import Derived.Test.YtnabpefjcgehiaaWrap2
import Derived.Test.YtnabpefjcgehiaaIsPart
import Derived.Test.YtnabpefjcgehiaaM2
import Derived.Test.YtnabpefjcgehiaaLay
import Derived.Test.YtnabpefjcgehiaaFace
import Derived.Test.YtnabpefjcgehiaaM1
import Derived.Test.YtnabpefjcgehiaaInv3
import Derived.ShutString
namespace Go.Proofs.Ytnabpefjcgehiaa.fnWrapped
open Go.ChangeShapes Go.WideShapes Go.ChangeAt Go.RowKit
set_option maxRecDepth 100000
open Go.ChangeMaps (open_string shut_string)
set_option linter.unusedVariables false

theorem own : ownKnob Try.prog.godebug = none := by kernel_rfl

set_option maxHeartbeats 8000000 in
/-- The walk: the Go text returns true. -/
theorem walk (w : World) (v0 : Value) (a0 : List UInt8) (hv0 : RdL w 1 byteEn v0 a0) :
    Calls Try.prog 4 #[v0] w fun e w' => e = .returned (.bool true) ∧ Below w.heap.size w w' := by
  have H0 := hide hv0
  clear hv0
  rcases hbig : decide (4096 < a0.length) with _ | _
  · have hl : a0.length ≤ 4096 := by simpa using hbig
    go_enter Try.func4, Try.ntmps4
    go_wp2_with fail
    refine (big_c _ _ _ H0.out).mono ?_; rintro e w' ⟨rfl, rfl⟩
    rw [hbig]
    go_wp2_with fail
    refine (drawWrap_c _ _ _ H0.out hl).mono ?_; rintro e W1 ⟨⟨⟨pk, po, pb, pl, pn⟩, py⟩, s, t, nm, rfl, o1, l1, hD, hn6, BW⟩
    obtain ⟨S, d, rfl⟩ := o1.shape
    obtain ⟨T, f, rfl⟩ := l1.shape
    unfold partV
    dsimp only at o1 l1 ⊢
    have HWF : Hid (CoreD.wf (⟨pk, po, pb, pl, pn⟩ : Pu.CoreD)) := hD.1.wf
    have HWC : Hid (∀ c ∈ pl, CellD.wf c) := hD.1.2.2.wf
    have hpl : pl.length ≤ 16777216 := by have h9 : pl.length ≤ 6 := hD.1.2.2.1; omega
    have hpy4 : py.length ≤ 4 := hD.2
    have hpy : py.length ≤ 16777216 := by omega
    have OS := hide (show RdL W1 2 cellEn (.slice S pl.length d) pl from o1.rd (fun _ => rfl))
    have OT := hide (show RdL W1 2 layerEn (.slice T py.length f) py from l1.rd (fun _ => rfl))
    clear o1 l1 hD hbig
    obtain ⟨W2, hW2⟩ : ∃ W, Hid (W1.alloc (.cells #[.string pk, .bool po, .bool pb, .slice S pl.length d, .int .i64 pn, .slice T py.length f] 31 : Obj) = W) := ⟨_, rfl⟩
    have b : Below W1.heap.size W1 W2 := by rw [← hW2.out]; exact below_alloc (Below.refl _ _) _
    have OS := hide (show RdL W2 2 cellEn (.slice S pl.length d) pl from RdL.below OS.out b (Nat.le_refl _))
    have OT := hide (show RdL W2 2 layerEn (.slice T py.length f) py from RdL.below OT.out b (Nat.le_refl _))
    have BW := below_then BW b
    have RP := hide (show W2.heap[W1.heap.size]? = some (.cells #[.string pk, .bool po, .bool pb, .slice S pl.length d, .int .i64 pn, .slice T py.length f] 31 (0, 0) : Obj) by rw [← hW2.out]; exact heap_new rfl)
    have EP := hide (show (W1.alloc (.cells #[.string pk, .bool po, .bool pb, .slice S pl.length d, .int .i64 pn, .slice T py.length f] 31 : Obj)).heap[W1.heap.size]? = some (.cells #[.string pk, .bool po, .bool pb, .slice S pl.length d, .int .i64 pn, .slice T py.length f] 31 (0, 0) : Obj) by rw [hW2.out]; exact RP.out)
    obtain ⟨_, _, _, _, _, _, _⟩ := six_cells EP.out
    obtain ⟨_, _, _, _, _, _, _⟩ := six_cells RP.out
    go_wp2_with fail
    rw [hW2.out]
    rcases (by cases Pu.partB (⟨⟨pk, po, pb, pl, pn⟩, py⟩ : Pu.PartD) <;> simp : Pu.partB (⟨⟨pk, po, pb, pl, pn⟩, py⟩ : Pu.PartD) = false ∨ Pu.partB (⟨⟨pk, po, pb, pl, pn⟩, py⟩ : Pu.PartD) = true) with hpp | hpp
    · skip
      rcases (by cases Pu.layOk nm.toList <;> simp : Pu.layOk nm.toList = false ∨ Pu.layOk nm.toList = true) with hok | hok
      · replace hpp := hide hpp
        replace hok := hide hok
        obtain ⟨NL, hNL⟩ : ∃ NL, Hid (Pu.layN nm.toList = NL) := ⟨_, rfl⟩
        obtain ⟨GL, hGL⟩ : ∃ GL, Hid (Pu.layG nm.toList = GL) := ⟨_, rfl⟩
        obtain ⟨hr, hq⟩ := Pu.wrapR_bad (p := (⟨⟨pk, po, pb, pl, pn⟩, py⟩ : Pu.PartD)) (n := nm) (by rw [hpp.out, hok.out]; rfl)
        have HQ := hide hq
        have HR := hide hr
        clear hq hr
        refine (iWrap_c (⟨⟨pk, po, pb, pl, pn⟩, py⟩ : Pu.PartD) nm _ _ _ HWF.out ⟨OS.out, HWC.out⟩ OT.out hpl hpy).mono ?_; rintro e W3 ⟨⟨s9, t9, rfl, os, ot, _⟩, b⟩
        rw [HQ.out] at os ot ⊢
        rw [HR.out]
        dsimp only at os ot
        obtain ⟨S9, d9, rfl⟩ := os.shape
        obtain ⟨T9, f9, rfl⟩ := ot.shape
        unfold partV replyV
        dsimp only
        have RP := hide (show W3.heap[W1.heap.size]? = some (.cells #[.string pk, .bool po, .bool pb, .slice S pl.length d, .int .i64 pn, .slice T py.length f] 31 (0, 0) : Obj) from row_on b RP.out)
        have OS := hide (show RdL W3 2 cellEn (.slice S pl.length d) pl from RdL.below OS.out b (Nat.le_refl _))
        have OT := hide (show RdL W3 2 layerEn (.slice T py.length f) py from RdL.below OT.out b (Nat.le_refl _))
        have BW := below_then BW b
        have OQ := hide (show RdL W3 2 cellEn (.slice S9 pl.length d9) pl from os.rd (fun _ => rfl))
        have OV := hide (show RdL W3 2 layerEn (.slice T9 py.length f9) py from ot.rd (fun _ => rfl))
        clear os ot
        obtain ⟨W4, hW4⟩ : ∃ W, Hid ((W3.alloc (.cells #[.string pk, .bool po, .bool pb, .slice S9 pl.length d9, .int .i64 pn, .slice T9 py.length f9] 31 : Obj)).alloc (.cells #[.int .i64 7, .int .i64 0, .string ⟨#[]⟩, .int .i64 0, .int .i64 0] 33 : Obj) = W) := ⟨_, rfl⟩
        have b : Below W3.heap.size W3 W4 := by rw [← hW4.out]; exact below_alloc (below_alloc (Below.refl _ _) _) _
        have RP := hide (show W4.heap[W1.heap.size]? = some (.cells #[.string pk, .bool po, .bool pb, .slice S pl.length d, .int .i64 pn, .slice T py.length f] 31 (0, 0) : Obj) from row_on b RP.out)
        have OS := hide (show RdL W4 2 cellEn (.slice S pl.length d) pl from RdL.below OS.out b (Nat.le_refl _))
        have OT := hide (show RdL W4 2 layerEn (.slice T py.length f) py from RdL.below OT.out b (Nat.le_refl _))
        have OQ := hide (show RdL W4 2 cellEn (.slice S9 pl.length d9) pl from RdL.below OQ.out b (Nat.le_refl _))
        have OV := hide (show RdL W4 2 layerEn (.slice T9 py.length f9) py from RdL.below OV.out b (Nat.le_refl _))
        have BW := below_then BW b
        have RQ := hide (show W4.heap[W3.heap.size]? = some (.cells #[.string pk, .bool po, .bool pb, .slice S9 pl.length d9, .int .i64 pn, .slice T9 py.length f9] 31 (0, 0) : Obj) by rw [← hW4.out]; exact heap_old (by simp) (heap_new rfl))
        have RR := hide (show W4.heap[W3.heap.size + 1]? = some (.cells #[.int .i64 7, .int .i64 0, .string ⟨#[]⟩, .int .i64 0, .int .i64 0] 33 (0, 0) : Obj) by rw [← hW4.out]; exact heap_new (by simp))
        have EP := hide (show ((W3.alloc (.cells #[.string pk, .bool po, .bool pb, .slice S9 pl.length d9, .int .i64 pn, .slice T9 py.length f9] 31 : Obj)).alloc (.cells #[.int .i64 7, .int .i64 0, .string ⟨#[]⟩, .int .i64 0, .int .i64 0] 33 : Obj)).heap[W1.heap.size]? = some (.cells #[.string pk, .bool po, .bool pb, .slice S pl.length d, .int .i64 pn, .slice T py.length f] 31 (0, 0) : Obj) by rw [hW4.out]; exact RP.out)
        have EQ := hide (show ((W3.alloc (.cells #[.string pk, .bool po, .bool pb, .slice S9 pl.length d9, .int .i64 pn, .slice T9 py.length f9] 31 : Obj)).alloc (.cells #[.int .i64 7, .int .i64 0, .string ⟨#[]⟩, .int .i64 0, .int .i64 0] 33 : Obj)).heap[W3.heap.size]? = some (.cells #[.string pk, .bool po, .bool pb, .slice S9 pl.length d9, .int .i64 pn, .slice T9 py.length f9] 31 (0, 0) : Obj) by rw [hW4.out]; exact RQ.out)
        have ER := hide (show ((W3.alloc (.cells #[.string pk, .bool po, .bool pb, .slice S9 pl.length d9, .int .i64 pn, .slice T9 py.length f9] 31 : Obj)).alloc (.cells #[.int .i64 7, .int .i64 0, .string ⟨#[]⟩, .int .i64 0, .int .i64 0] 33 : Obj)).heap[W3.heap.size + 1]? = some (.cells #[.int .i64 7, .int .i64 0, .string ⟨#[]⟩, .int .i64 0, .int .i64 0] 33 (0, 0) : Obj) by rw [hW4.out]; exact RR.out)
        obtain ⟨_, _, _, _, _, _, _⟩ := six_cells EP.out
        obtain ⟨_, _, _, _, _, _, _⟩ := six_cells EQ.out
        obtain ⟨_, _, _, _, _, _⟩ := five_cells ER.out
        obtain ⟨_, _, _, _, _, _, _⟩ := six_cells RP.out
        obtain ⟨_, _, _, _, _, _, _⟩ := six_cells RQ.out
        obtain ⟨_, _, _, _, _, _⟩ := five_cells RR.out
        go_wp2_with fail
        rw [hW4.out]
        refine (iLayerNeeds_c nm _).mono ?_; rintro e w' ⟨rfl, rfl⟩
        rw [hok.out, hNL.out]
        obtain ⟨_, _, _, _, _, _, _⟩ := six_cells RP.out
        obtain ⟨_, _, _, _, _, _, _⟩ := six_cells RQ.out
        obtain ⟨_, _, _, _, _, _⟩ := five_cells RR.out
        go_wp2_with fail
        refine (iLayerGives_c nm _).mono ?_; rintro e w' ⟨rfl, rfl⟩
        rw [hok.out, hGL.out]
        obtain ⟨_, _, _, _, _, _, _⟩ := six_cells RP.out
        obtain ⟨_, _, _, _, _, _, _⟩ := six_cells RQ.out
        obtain ⟨_, _, _, _, _, _⟩ := five_cells RR.out
        go_wp2_with fail
        refine (iIsPart_c (⟨⟨pk, po, pb, pl, pn⟩, py⟩ : Pu.PartD) _ _ _ HWF.out ⟨OS.out, HWC.out⟩ OT.out).mono ?_; rintro e W5 ⟨rfl, b⟩
        have RP := hide (show W5.heap[W1.heap.size]? = some (.cells #[.string pk, .bool po, .bool pb, .slice S pl.length d, .int .i64 pn, .slice T py.length f] 31 (0, 0) : Obj) from row_on b RP.out)
        have RQ := hide (show W5.heap[W3.heap.size]? = some (.cells #[.string pk, .bool po, .bool pb, .slice S9 pl.length d9, .int .i64 pn, .slice T9 py.length f9] 31 (0, 0) : Obj) from row_on b RQ.out)
        have RR := hide (show W5.heap[W3.heap.size + 1]? = some (.cells #[.int .i64 7, .int .i64 0, .string ⟨#[]⟩, .int .i64 0, .int .i64 0] 33 (0, 0) : Obj) from row_on b RR.out)
        have OS := hide (show RdL W5 2 cellEn (.slice S pl.length d) pl from RdL.below OS.out b (Nat.le_refl _))
        have OT := hide (show RdL W5 2 layerEn (.slice T py.length f) py from RdL.below OT.out b (Nat.le_refl _))
        have OQ := hide (show RdL W5 2 cellEn (.slice S9 pl.length d9) pl from RdL.below OQ.out b (Nat.le_refl _))
        have OV := hide (show RdL W5 2 layerEn (.slice T9 py.length f9) py from RdL.below OV.out b (Nat.le_refl _))
        have BW := below_then BW b
        rw [hpp.out]
        obtain ⟨_, _, _, _, _, _, _⟩ := six_cells RP.out
        obtain ⟨_, _, _, _, _, _, _⟩ := six_cells RQ.out
        obtain ⟨_, _, _, _, _, _⟩ := five_cells RR.out
        go_wp2_with fail
        refine (iSamePart_c (⟨⟨pk, po, pb, pl, pn⟩, py⟩ : Pu.PartD) (⟨⟨pk, po, pb, pl, pn⟩, py⟩ : Pu.PartD) _ _ _ _ _ OS.out OT.out OQ.out OV.out).mono ?_; rintro e W6 ⟨rfl, b⟩
        have RP := hide (show W6.heap[W1.heap.size]? = some (.cells #[.string pk, .bool po, .bool pb, .slice S pl.length d, .int .i64 pn, .slice T py.length f] 31 (0, 0) : Obj) from row_on b RP.out)
        have RQ := hide (show W6.heap[W3.heap.size]? = some (.cells #[.string pk, .bool po, .bool pb, .slice S9 pl.length d9, .int .i64 pn, .slice T9 py.length f9] 31 (0, 0) : Obj) from row_on b RQ.out)
        have RR := hide (show W6.heap[W3.heap.size + 1]? = some (.cells #[.int .i64 7, .int .i64 0, .string ⟨#[]⟩, .int .i64 0, .int .i64 0] 33 (0, 0) : Obj) from row_on b RR.out)
        have OS := hide (show RdL W6 2 cellEn (.slice S pl.length d) pl from RdL.below OS.out b (Nat.le_refl _))
        have OT := hide (show RdL W6 2 layerEn (.slice T py.length f) py from RdL.below OT.out b (Nat.le_refl _))
        have OQ := hide (show RdL W6 2 cellEn (.slice S9 pl.length d9) pl from RdL.below OQ.out b (Nat.le_refl _))
        have OV := hide (show RdL W6 2 layerEn (.slice T9 py.length f9) py from RdL.below OV.out b (Nat.le_refl _))
        have BW := below_then BW b
        rw [Pu.samePart_refl]
        obtain ⟨_, _, _, _, _, _, _⟩ := six_cells RP.out
        obtain ⟨_, _, _, _, _, _, _⟩ := six_cells RQ.out
        obtain ⟨_, _, _, _, _, _⟩ := five_cells RR.out
        go_wp2
        go_ret
        exact ⟨rfl, BW⟩
      · replace hpp := hide hpp
        replace hok := hide hok
        obtain ⟨NL, hNL⟩ : ∃ NL, Hid (Pu.layN nm.toList = NL) := ⟨_, rfl⟩
        obtain ⟨GL, hGL⟩ : ∃ GL, Hid (Pu.layG nm.toList = GL) := ⟨_, rfl⟩
        obtain ⟨hr, hq⟩ := Pu.wrapR_bad (p := (⟨⟨pk, po, pb, pl, pn⟩, py⟩ : Pu.PartD)) (n := nm) (by rw [hpp.out, hok.out]; rfl)
        have HQ := hide hq
        have HR := hide hr
        clear hq hr
        refine (iWrap_c (⟨⟨pk, po, pb, pl, pn⟩, py⟩ : Pu.PartD) nm _ _ _ HWF.out ⟨OS.out, HWC.out⟩ OT.out hpl hpy).mono ?_; rintro e W3 ⟨⟨s9, t9, rfl, os, ot, _⟩, b⟩
        rw [HQ.out] at os ot ⊢
        rw [HR.out]
        dsimp only at os ot
        obtain ⟨S9, d9, rfl⟩ := os.shape
        obtain ⟨T9, f9, rfl⟩ := ot.shape
        unfold partV replyV
        dsimp only
        have RP := hide (show W3.heap[W1.heap.size]? = some (.cells #[.string pk, .bool po, .bool pb, .slice S pl.length d, .int .i64 pn, .slice T py.length f] 31 (0, 0) : Obj) from row_on b RP.out)
        have OS := hide (show RdL W3 2 cellEn (.slice S pl.length d) pl from RdL.below OS.out b (Nat.le_refl _))
        have OT := hide (show RdL W3 2 layerEn (.slice T py.length f) py from RdL.below OT.out b (Nat.le_refl _))
        have BW := below_then BW b
        have OQ := hide (show RdL W3 2 cellEn (.slice S9 pl.length d9) pl from os.rd (fun _ => rfl))
        have OV := hide (show RdL W3 2 layerEn (.slice T9 py.length f9) py from ot.rd (fun _ => rfl))
        clear os ot
        obtain ⟨W4, hW4⟩ : ∃ W, Hid ((W3.alloc (.cells #[.string pk, .bool po, .bool pb, .slice S9 pl.length d9, .int .i64 pn, .slice T9 py.length f9] 31 : Obj)).alloc (.cells #[.int .i64 7, .int .i64 0, .string ⟨#[]⟩, .int .i64 0, .int .i64 0] 33 : Obj) = W) := ⟨_, rfl⟩
        have b : Below W3.heap.size W3 W4 := by rw [← hW4.out]; exact below_alloc (below_alloc (Below.refl _ _) _) _
        have RP := hide (show W4.heap[W1.heap.size]? = some (.cells #[.string pk, .bool po, .bool pb, .slice S pl.length d, .int .i64 pn, .slice T py.length f] 31 (0, 0) : Obj) from row_on b RP.out)
        have OS := hide (show RdL W4 2 cellEn (.slice S pl.length d) pl from RdL.below OS.out b (Nat.le_refl _))
        have OT := hide (show RdL W4 2 layerEn (.slice T py.length f) py from RdL.below OT.out b (Nat.le_refl _))
        have OQ := hide (show RdL W4 2 cellEn (.slice S9 pl.length d9) pl from RdL.below OQ.out b (Nat.le_refl _))
        have OV := hide (show RdL W4 2 layerEn (.slice T9 py.length f9) py from RdL.below OV.out b (Nat.le_refl _))
        have BW := below_then BW b
        have RQ := hide (show W4.heap[W3.heap.size]? = some (.cells #[.string pk, .bool po, .bool pb, .slice S9 pl.length d9, .int .i64 pn, .slice T9 py.length f9] 31 (0, 0) : Obj) by rw [← hW4.out]; exact heap_old (by simp) (heap_new rfl))
        have RR := hide (show W4.heap[W3.heap.size + 1]? = some (.cells #[.int .i64 7, .int .i64 0, .string ⟨#[]⟩, .int .i64 0, .int .i64 0] 33 (0, 0) : Obj) by rw [← hW4.out]; exact heap_new (by simp))
        have EP := hide (show ((W3.alloc (.cells #[.string pk, .bool po, .bool pb, .slice S9 pl.length d9, .int .i64 pn, .slice T9 py.length f9] 31 : Obj)).alloc (.cells #[.int .i64 7, .int .i64 0, .string ⟨#[]⟩, .int .i64 0, .int .i64 0] 33 : Obj)).heap[W1.heap.size]? = some (.cells #[.string pk, .bool po, .bool pb, .slice S pl.length d, .int .i64 pn, .slice T py.length f] 31 (0, 0) : Obj) by rw [hW4.out]; exact RP.out)
        have EQ := hide (show ((W3.alloc (.cells #[.string pk, .bool po, .bool pb, .slice S9 pl.length d9, .int .i64 pn, .slice T9 py.length f9] 31 : Obj)).alloc (.cells #[.int .i64 7, .int .i64 0, .string ⟨#[]⟩, .int .i64 0, .int .i64 0] 33 : Obj)).heap[W3.heap.size]? = some (.cells #[.string pk, .bool po, .bool pb, .slice S9 pl.length d9, .int .i64 pn, .slice T9 py.length f9] 31 (0, 0) : Obj) by rw [hW4.out]; exact RQ.out)
        have ER := hide (show ((W3.alloc (.cells #[.string pk, .bool po, .bool pb, .slice S9 pl.length d9, .int .i64 pn, .slice T9 py.length f9] 31 : Obj)).alloc (.cells #[.int .i64 7, .int .i64 0, .string ⟨#[]⟩, .int .i64 0, .int .i64 0] 33 : Obj)).heap[W3.heap.size + 1]? = some (.cells #[.int .i64 7, .int .i64 0, .string ⟨#[]⟩, .int .i64 0, .int .i64 0] 33 (0, 0) : Obj) by rw [hW4.out]; exact RR.out)
        obtain ⟨_, _, _, _, _, _, _⟩ := six_cells EP.out
        obtain ⟨_, _, _, _, _, _, _⟩ := six_cells EQ.out
        obtain ⟨_, _, _, _, _, _⟩ := five_cells ER.out
        obtain ⟨_, _, _, _, _, _, _⟩ := six_cells RP.out
        obtain ⟨_, _, _, _, _, _, _⟩ := six_cells RQ.out
        obtain ⟨_, _, _, _, _, _⟩ := five_cells RR.out
        go_wp2_with fail
        rw [hW4.out]
        refine (iLayerNeeds_c nm _).mono ?_; rintro e w' ⟨rfl, rfl⟩
        rw [hok.out, hNL.out]
        obtain ⟨_, _, _, _, _, _, _⟩ := six_cells RP.out
        obtain ⟨_, _, _, _, _, _, _⟩ := six_cells RQ.out
        obtain ⟨_, _, _, _, _, _⟩ := five_cells RR.out
        go_wp2_with fail
        refine (iLayerGives_c nm _).mono ?_; rintro e w' ⟨rfl, rfl⟩
        rw [hok.out, hGL.out]
        obtain ⟨_, _, _, _, _, _, _⟩ := six_cells RP.out
        obtain ⟨_, _, _, _, _, _, _⟩ := six_cells RQ.out
        obtain ⟨_, _, _, _, _, _⟩ := five_cells RR.out
        go_wp2_with fail
        refine (iIsPart_c (⟨⟨pk, po, pb, pl, pn⟩, py⟩ : Pu.PartD) _ _ _ HWF.out ⟨OS.out, HWC.out⟩ OT.out).mono ?_; rintro e W5 ⟨rfl, b⟩
        have RP := hide (show W5.heap[W1.heap.size]? = some (.cells #[.string pk, .bool po, .bool pb, .slice S pl.length d, .int .i64 pn, .slice T py.length f] 31 (0, 0) : Obj) from row_on b RP.out)
        have RQ := hide (show W5.heap[W3.heap.size]? = some (.cells #[.string pk, .bool po, .bool pb, .slice S9 pl.length d9, .int .i64 pn, .slice T9 py.length f9] 31 (0, 0) : Obj) from row_on b RQ.out)
        have RR := hide (show W5.heap[W3.heap.size + 1]? = some (.cells #[.int .i64 7, .int .i64 0, .string ⟨#[]⟩, .int .i64 0, .int .i64 0] 33 (0, 0) : Obj) from row_on b RR.out)
        have OS := hide (show RdL W5 2 cellEn (.slice S pl.length d) pl from RdL.below OS.out b (Nat.le_refl _))
        have OT := hide (show RdL W5 2 layerEn (.slice T py.length f) py from RdL.below OT.out b (Nat.le_refl _))
        have OQ := hide (show RdL W5 2 cellEn (.slice S9 pl.length d9) pl from RdL.below OQ.out b (Nat.le_refl _))
        have OV := hide (show RdL W5 2 layerEn (.slice T9 py.length f9) py from RdL.below OV.out b (Nat.le_refl _))
        have BW := below_then BW b
        rw [hpp.out]
        obtain ⟨_, _, _, _, _, _, _⟩ := six_cells RP.out
        obtain ⟨_, _, _, _, _, _, _⟩ := six_cells RQ.out
        obtain ⟨_, _, _, _, _, _⟩ := five_cells RR.out
        go_wp2_with fail
        refine (iSamePart_c (⟨⟨pk, po, pb, pl, pn⟩, py⟩ : Pu.PartD) (⟨⟨pk, po, pb, pl, pn⟩, py⟩ : Pu.PartD) _ _ _ _ _ OS.out OT.out OQ.out OV.out).mono ?_; rintro e W6 ⟨rfl, b⟩
        have RP := hide (show W6.heap[W1.heap.size]? = some (.cells #[.string pk, .bool po, .bool pb, .slice S pl.length d, .int .i64 pn, .slice T py.length f] 31 (0, 0) : Obj) from row_on b RP.out)
        have RQ := hide (show W6.heap[W3.heap.size]? = some (.cells #[.string pk, .bool po, .bool pb, .slice S9 pl.length d9, .int .i64 pn, .slice T9 py.length f9] 31 (0, 0) : Obj) from row_on b RQ.out)
        have RR := hide (show W6.heap[W3.heap.size + 1]? = some (.cells #[.int .i64 7, .int .i64 0, .string ⟨#[]⟩, .int .i64 0, .int .i64 0] 33 (0, 0) : Obj) from row_on b RR.out)
        have OS := hide (show RdL W6 2 cellEn (.slice S pl.length d) pl from RdL.below OS.out b (Nat.le_refl _))
        have OT := hide (show RdL W6 2 layerEn (.slice T py.length f) py from RdL.below OT.out b (Nat.le_refl _))
        have OQ := hide (show RdL W6 2 cellEn (.slice S9 pl.length d9) pl from RdL.below OQ.out b (Nat.le_refl _))
        have OV := hide (show RdL W6 2 layerEn (.slice T9 py.length f9) py from RdL.below OV.out b (Nat.le_refl _))
        have BW := below_then BW b
        rw [Pu.samePart_refl]
        obtain ⟨_, _, _, _, _, _, _⟩ := six_cells RP.out
        obtain ⟨_, _, _, _, _, _, _⟩ := six_cells RQ.out
        obtain ⟨_, _, _, _, _, _⟩ := five_cells RR.out
        go_wp2
        go_ret
        exact ⟨rfl, BW⟩
    · skip
      rcases (by cases Pu.layOk nm.toList <;> simp : Pu.layOk nm.toList = false ∨ Pu.layOk nm.toList = true) with hok | hok
      · replace hpp := hide hpp
        replace hok := hide hok
        obtain ⟨NL, hNL⟩ : ∃ NL, Hid (Pu.layN nm.toList = NL) := ⟨_, rfl⟩
        obtain ⟨GL, hGL⟩ : ∃ GL, Hid (Pu.layG nm.toList = GL) := ⟨_, rfl⟩
        obtain ⟨hr, hq⟩ := Pu.wrapR_bad (p := (⟨⟨pk, po, pb, pl, pn⟩, py⟩ : Pu.PartD)) (n := nm) (by rw [hpp.out, hok.out]; rfl)
        have HQ := hide hq
        have HR := hide hr
        clear hq hr
        refine (iWrap_c (⟨⟨pk, po, pb, pl, pn⟩, py⟩ : Pu.PartD) nm _ _ _ HWF.out ⟨OS.out, HWC.out⟩ OT.out hpl hpy).mono ?_; rintro e W3 ⟨⟨s9, t9, rfl, os, ot, _⟩, b⟩
        rw [HQ.out] at os ot ⊢
        rw [HR.out]
        dsimp only at os ot
        obtain ⟨S9, d9, rfl⟩ := os.shape
        obtain ⟨T9, f9, rfl⟩ := ot.shape
        unfold partV replyV
        dsimp only
        have RP := hide (show W3.heap[W1.heap.size]? = some (.cells #[.string pk, .bool po, .bool pb, .slice S pl.length d, .int .i64 pn, .slice T py.length f] 31 (0, 0) : Obj) from row_on b RP.out)
        have OS := hide (show RdL W3 2 cellEn (.slice S pl.length d) pl from RdL.below OS.out b (Nat.le_refl _))
        have OT := hide (show RdL W3 2 layerEn (.slice T py.length f) py from RdL.below OT.out b (Nat.le_refl _))
        have BW := below_then BW b
        have OQ := hide (show RdL W3 2 cellEn (.slice S9 pl.length d9) pl from os.rd (fun _ => rfl))
        have OV := hide (show RdL W3 2 layerEn (.slice T9 py.length f9) py from ot.rd (fun _ => rfl))
        clear os ot
        obtain ⟨W4, hW4⟩ : ∃ W, Hid ((W3.alloc (.cells #[.string pk, .bool po, .bool pb, .slice S9 pl.length d9, .int .i64 pn, .slice T9 py.length f9] 31 : Obj)).alloc (.cells #[.int .i64 7, .int .i64 0, .string ⟨#[]⟩, .int .i64 0, .int .i64 0] 33 : Obj) = W) := ⟨_, rfl⟩
        have b : Below W3.heap.size W3 W4 := by rw [← hW4.out]; exact below_alloc (below_alloc (Below.refl _ _) _) _
        have RP := hide (show W4.heap[W1.heap.size]? = some (.cells #[.string pk, .bool po, .bool pb, .slice S pl.length d, .int .i64 pn, .slice T py.length f] 31 (0, 0) : Obj) from row_on b RP.out)
        have OS := hide (show RdL W4 2 cellEn (.slice S pl.length d) pl from RdL.below OS.out b (Nat.le_refl _))
        have OT := hide (show RdL W4 2 layerEn (.slice T py.length f) py from RdL.below OT.out b (Nat.le_refl _))
        have OQ := hide (show RdL W4 2 cellEn (.slice S9 pl.length d9) pl from RdL.below OQ.out b (Nat.le_refl _))
        have OV := hide (show RdL W4 2 layerEn (.slice T9 py.length f9) py from RdL.below OV.out b (Nat.le_refl _))
        have BW := below_then BW b
        have RQ := hide (show W4.heap[W3.heap.size]? = some (.cells #[.string pk, .bool po, .bool pb, .slice S9 pl.length d9, .int .i64 pn, .slice T9 py.length f9] 31 (0, 0) : Obj) by rw [← hW4.out]; exact heap_old (by simp) (heap_new rfl))
        have RR := hide (show W4.heap[W3.heap.size + 1]? = some (.cells #[.int .i64 7, .int .i64 0, .string ⟨#[]⟩, .int .i64 0, .int .i64 0] 33 (0, 0) : Obj) by rw [← hW4.out]; exact heap_new (by simp))
        have EP := hide (show ((W3.alloc (.cells #[.string pk, .bool po, .bool pb, .slice S9 pl.length d9, .int .i64 pn, .slice T9 py.length f9] 31 : Obj)).alloc (.cells #[.int .i64 7, .int .i64 0, .string ⟨#[]⟩, .int .i64 0, .int .i64 0] 33 : Obj)).heap[W1.heap.size]? = some (.cells #[.string pk, .bool po, .bool pb, .slice S pl.length d, .int .i64 pn, .slice T py.length f] 31 (0, 0) : Obj) by rw [hW4.out]; exact RP.out)
        have EQ := hide (show ((W3.alloc (.cells #[.string pk, .bool po, .bool pb, .slice S9 pl.length d9, .int .i64 pn, .slice T9 py.length f9] 31 : Obj)).alloc (.cells #[.int .i64 7, .int .i64 0, .string ⟨#[]⟩, .int .i64 0, .int .i64 0] 33 : Obj)).heap[W3.heap.size]? = some (.cells #[.string pk, .bool po, .bool pb, .slice S9 pl.length d9, .int .i64 pn, .slice T9 py.length f9] 31 (0, 0) : Obj) by rw [hW4.out]; exact RQ.out)
        have ER := hide (show ((W3.alloc (.cells #[.string pk, .bool po, .bool pb, .slice S9 pl.length d9, .int .i64 pn, .slice T9 py.length f9] 31 : Obj)).alloc (.cells #[.int .i64 7, .int .i64 0, .string ⟨#[]⟩, .int .i64 0, .int .i64 0] 33 : Obj)).heap[W3.heap.size + 1]? = some (.cells #[.int .i64 7, .int .i64 0, .string ⟨#[]⟩, .int .i64 0, .int .i64 0] 33 (0, 0) : Obj) by rw [hW4.out]; exact RR.out)
        obtain ⟨_, _, _, _, _, _, _⟩ := six_cells EP.out
        obtain ⟨_, _, _, _, _, _, _⟩ := six_cells EQ.out
        obtain ⟨_, _, _, _, _, _⟩ := five_cells ER.out
        obtain ⟨_, _, _, _, _, _, _⟩ := six_cells RP.out
        obtain ⟨_, _, _, _, _, _, _⟩ := six_cells RQ.out
        obtain ⟨_, _, _, _, _, _⟩ := five_cells RR.out
        go_wp2_with fail
        rw [hW4.out]
        refine (iLayerNeeds_c nm _).mono ?_; rintro e w' ⟨rfl, rfl⟩
        rw [hok.out, hNL.out]
        obtain ⟨_, _, _, _, _, _, _⟩ := six_cells RP.out
        obtain ⟨_, _, _, _, _, _, _⟩ := six_cells RQ.out
        obtain ⟨_, _, _, _, _, _⟩ := five_cells RR.out
        go_wp2_with fail
        refine (iLayerGives_c nm _).mono ?_; rintro e w' ⟨rfl, rfl⟩
        rw [hok.out, hGL.out]
        obtain ⟨_, _, _, _, _, _, _⟩ := six_cells RP.out
        obtain ⟨_, _, _, _, _, _, _⟩ := six_cells RQ.out
        obtain ⟨_, _, _, _, _, _⟩ := five_cells RR.out
        go_wp2_with fail
        refine (iIsPart_c (⟨⟨pk, po, pb, pl, pn⟩, py⟩ : Pu.PartD) _ _ _ HWF.out ⟨OS.out, HWC.out⟩ OT.out).mono ?_; rintro e W5 ⟨rfl, b⟩
        have RP := hide (show W5.heap[W1.heap.size]? = some (.cells #[.string pk, .bool po, .bool pb, .slice S pl.length d, .int .i64 pn, .slice T py.length f] 31 (0, 0) : Obj) from row_on b RP.out)
        have RQ := hide (show W5.heap[W3.heap.size]? = some (.cells #[.string pk, .bool po, .bool pb, .slice S9 pl.length d9, .int .i64 pn, .slice T9 py.length f9] 31 (0, 0) : Obj) from row_on b RQ.out)
        have RR := hide (show W5.heap[W3.heap.size + 1]? = some (.cells #[.int .i64 7, .int .i64 0, .string ⟨#[]⟩, .int .i64 0, .int .i64 0] 33 (0, 0) : Obj) from row_on b RR.out)
        have OS := hide (show RdL W5 2 cellEn (.slice S pl.length d) pl from RdL.below OS.out b (Nat.le_refl _))
        have OT := hide (show RdL W5 2 layerEn (.slice T py.length f) py from RdL.below OT.out b (Nat.le_refl _))
        have OQ := hide (show RdL W5 2 cellEn (.slice S9 pl.length d9) pl from RdL.below OQ.out b (Nat.le_refl _))
        have OV := hide (show RdL W5 2 layerEn (.slice T9 py.length f9) py from RdL.below OV.out b (Nat.le_refl _))
        have BW := below_then BW b
        rw [hpp.out]
        obtain ⟨_, _, _, _, _, _, _⟩ := six_cells RP.out
        obtain ⟨_, _, _, _, _, _, _⟩ := six_cells RQ.out
        obtain ⟨_, _, _, _, _, _⟩ := five_cells RR.out
        go_wp2_with fail
        refine (iSamePart_c (⟨⟨pk, po, pb, pl, pn⟩, py⟩ : Pu.PartD) (⟨⟨pk, po, pb, pl, pn⟩, py⟩ : Pu.PartD) _ _ _ _ _ OS.out OT.out OQ.out OV.out).mono ?_; rintro e W6 ⟨rfl, b⟩
        have RP := hide (show W6.heap[W1.heap.size]? = some (.cells #[.string pk, .bool po, .bool pb, .slice S pl.length d, .int .i64 pn, .slice T py.length f] 31 (0, 0) : Obj) from row_on b RP.out)
        have RQ := hide (show W6.heap[W3.heap.size]? = some (.cells #[.string pk, .bool po, .bool pb, .slice S9 pl.length d9, .int .i64 pn, .slice T9 py.length f9] 31 (0, 0) : Obj) from row_on b RQ.out)
        have RR := hide (show W6.heap[W3.heap.size + 1]? = some (.cells #[.int .i64 7, .int .i64 0, .string ⟨#[]⟩, .int .i64 0, .int .i64 0] 33 (0, 0) : Obj) from row_on b RR.out)
        have OS := hide (show RdL W6 2 cellEn (.slice S pl.length d) pl from RdL.below OS.out b (Nat.le_refl _))
        have OT := hide (show RdL W6 2 layerEn (.slice T py.length f) py from RdL.below OT.out b (Nat.le_refl _))
        have OQ := hide (show RdL W6 2 cellEn (.slice S9 pl.length d9) pl from RdL.below OQ.out b (Nat.le_refl _))
        have OV := hide (show RdL W6 2 layerEn (.slice T9 py.length f9) py from RdL.below OV.out b (Nat.le_refl _))
        have BW := below_then BW b
        rw [Pu.samePart_refl]
        obtain ⟨_, _, _, _, _, _, _⟩ := six_cells RP.out
        obtain ⟨_, _, _, _, _, _, _⟩ := six_cells RQ.out
        obtain ⟨_, _, _, _, _, _⟩ := five_cells RR.out
        go_wp2
        go_ret
        exact ⟨rfl, BW⟩
      · replace hpp := hide hpp
        replace hok := hide hok
        have hpy3 : py.length ≤ 3 := Pu.part_len hpp.out
        by_cases h3 : py.length < 3
        · skip
          obtain ⟨NL, hNL⟩ : ∃ NL, Hid (Pu.layN nm.toList = NL) := ⟨_, rfl⟩
          obtain ⟨GL, hGL⟩ : ∃ GL, Hid (Pu.layG nm.toList = GL) := ⟨_, rfl⟩
          obtain ⟨F, hF⟩ : ∃ F, Hid (Pu.faceAt (⟨⟨pk, po, pb, pl, pn⟩, py⟩ : Pu.PartD) py.length = F) := ⟨_, rfl⟩
          rcases (by cases Pu.offersB F NL <;> simp : Pu.offersB F NL = false ∨ Pu.offersB F NL = true) with hof | hof
          · replace hof := hide hof
            have hL := Pu.wrapR_no (p := (⟨⟨pk, po, pb, pl, pn⟩, py⟩ : Pu.PartD)) (n := nm) hpp.out hok.out h3 (show Pu.offersB (Pu.faceAt (⟨⟨pk, po, pb, pl, pn⟩, py⟩ : Pu.PartD) py.length) (Pu.layN nm.toList) = false by rw [hF.out, hNL.out]; exact hof.out)
            rw [show Pu.faceAt (⟨⟨pk, po, pb, pl, pn⟩, py⟩ : Pu.PartD) (⟨⟨pk, po, pb, pl, pn⟩, py⟩ : Pu.PartD).layers.length = F from hF.out, hNL.out] at hL
            obtain ⟨hr, hq⟩ := hL
            have HQ := hide hq
            have HR := hide hr
            clear hq hr
            refine (iWrap_c (⟨⟨pk, po, pb, pl, pn⟩, py⟩ : Pu.PartD) nm _ _ _ HWF.out ⟨OS.out, HWC.out⟩ OT.out hpl hpy).mono ?_; rintro e W3 ⟨⟨s9, t9, rfl, os, ot, _⟩, b⟩
            rw [HQ.out] at os ot ⊢
            rw [HR.out]
            dsimp only at os ot
            obtain ⟨S9, d9, rfl⟩ := os.shape
            obtain ⟨T9, f9, rfl⟩ := ot.shape
            unfold partV replyV
            dsimp only
            have RP := hide (show W3.heap[W1.heap.size]? = some (.cells #[.string pk, .bool po, .bool pb, .slice S pl.length d, .int .i64 pn, .slice T py.length f] 31 (0, 0) : Obj) from row_on b RP.out)
            have OS := hide (show RdL W3 2 cellEn (.slice S pl.length d) pl from RdL.below OS.out b (Nat.le_refl _))
            have OT := hide (show RdL W3 2 layerEn (.slice T py.length f) py from RdL.below OT.out b (Nat.le_refl _))
            have BW := below_then BW b
            have OQ := hide (show RdL W3 2 cellEn (.slice S9 pl.length d9) pl from os.rd (fun _ => rfl))
            have OV := hide (show RdL W3 2 layerEn (.slice T9 py.length f9) py from ot.rd (fun _ => rfl))
            clear os ot
            obtain ⟨W4, hW4⟩ : ∃ W, Hid ((W3.alloc (.cells #[.string pk, .bool po, .bool pb, .slice S9 pl.length d9, .int .i64 pn, .slice T9 py.length f9] 31 : Obj)).alloc (.cells #[.int .i64 1, .int .i64 0, .string ⟨#[]⟩, .int .i64 NL, .int .i64 F] 33 : Obj) = W) := ⟨_, rfl⟩
            have b : Below W3.heap.size W3 W4 := by rw [← hW4.out]; exact below_alloc (below_alloc (Below.refl _ _) _) _
            have RP := hide (show W4.heap[W1.heap.size]? = some (.cells #[.string pk, .bool po, .bool pb, .slice S pl.length d, .int .i64 pn, .slice T py.length f] 31 (0, 0) : Obj) from row_on b RP.out)
            have OS := hide (show RdL W4 2 cellEn (.slice S pl.length d) pl from RdL.below OS.out b (Nat.le_refl _))
            have OT := hide (show RdL W4 2 layerEn (.slice T py.length f) py from RdL.below OT.out b (Nat.le_refl _))
            have OQ := hide (show RdL W4 2 cellEn (.slice S9 pl.length d9) pl from RdL.below OQ.out b (Nat.le_refl _))
            have OV := hide (show RdL W4 2 layerEn (.slice T9 py.length f9) py from RdL.below OV.out b (Nat.le_refl _))
            have BW := below_then BW b
            have RQ := hide (show W4.heap[W3.heap.size]? = some (.cells #[.string pk, .bool po, .bool pb, .slice S9 pl.length d9, .int .i64 pn, .slice T9 py.length f9] 31 (0, 0) : Obj) by rw [← hW4.out]; exact heap_old (by simp) (heap_new rfl))
            have RR := hide (show W4.heap[W3.heap.size + 1]? = some (.cells #[.int .i64 1, .int .i64 0, .string ⟨#[]⟩, .int .i64 NL, .int .i64 F] 33 (0, 0) : Obj) by rw [← hW4.out]; exact heap_new (by simp))
            have EP := hide (show ((W3.alloc (.cells #[.string pk, .bool po, .bool pb, .slice S9 pl.length d9, .int .i64 pn, .slice T9 py.length f9] 31 : Obj)).alloc (.cells #[.int .i64 1, .int .i64 0, .string ⟨#[]⟩, .int .i64 NL, .int .i64 F] 33 : Obj)).heap[W1.heap.size]? = some (.cells #[.string pk, .bool po, .bool pb, .slice S pl.length d, .int .i64 pn, .slice T py.length f] 31 (0, 0) : Obj) by rw [hW4.out]; exact RP.out)
            have EQ := hide (show ((W3.alloc (.cells #[.string pk, .bool po, .bool pb, .slice S9 pl.length d9, .int .i64 pn, .slice T9 py.length f9] 31 : Obj)).alloc (.cells #[.int .i64 1, .int .i64 0, .string ⟨#[]⟩, .int .i64 NL, .int .i64 F] 33 : Obj)).heap[W3.heap.size]? = some (.cells #[.string pk, .bool po, .bool pb, .slice S9 pl.length d9, .int .i64 pn, .slice T9 py.length f9] 31 (0, 0) : Obj) by rw [hW4.out]; exact RQ.out)
            have ER := hide (show ((W3.alloc (.cells #[.string pk, .bool po, .bool pb, .slice S9 pl.length d9, .int .i64 pn, .slice T9 py.length f9] 31 : Obj)).alloc (.cells #[.int .i64 1, .int .i64 0, .string ⟨#[]⟩, .int .i64 NL, .int .i64 F] 33 : Obj)).heap[W3.heap.size + 1]? = some (.cells #[.int .i64 1, .int .i64 0, .string ⟨#[]⟩, .int .i64 NL, .int .i64 F] 33 (0, 0) : Obj) by rw [hW4.out]; exact RR.out)
            obtain ⟨_, _, _, _, _, _, _⟩ := six_cells EP.out
            obtain ⟨_, _, _, _, _, _, _⟩ := six_cells EQ.out
            obtain ⟨_, _, _, _, _, _⟩ := five_cells ER.out
            have h3b : ((py.length : Int) == 3) = false := by simp; omega
            have h3c : ¬ (py.length : Int) = 3 := by omega
            obtain ⟨_, _, _, _, _, _, _⟩ := six_cells RP.out
            obtain ⟨_, _, _, _, _, _, _⟩ := six_cells RQ.out
            obtain ⟨_, _, _, _, _, _⟩ := five_cells RR.out
            go_wp2_with fail
            rw [hW4.out]
            refine (iLayerNeeds_c nm _).mono ?_; rintro e w' ⟨rfl, rfl⟩
            rw [hok.out, hNL.out]
            obtain ⟨_, _, _, _, _, _, _⟩ := six_cells RP.out
            obtain ⟨_, _, _, _, _, _, _⟩ := six_cells RQ.out
            obtain ⟨_, _, _, _, _, _⟩ := five_cells RR.out
            go_wp2_with fail
            refine (iLayerGives_c nm _).mono ?_; rintro e w' ⟨rfl, rfl⟩
            rw [hok.out, hGL.out]
            obtain ⟨_, _, _, _, _, _, _⟩ := six_cells RP.out
            obtain ⟨_, _, _, _, _, _, _⟩ := six_cells RQ.out
            obtain ⟨_, _, _, _, _, _⟩ := five_cells RR.out
            go_wp2_with fail
            refine (iIsPart_c (⟨⟨pk, po, pb, pl, pn⟩, py⟩ : Pu.PartD) _ _ _ HWF.out ⟨OS.out, HWC.out⟩ OT.out).mono ?_; rintro e W5 ⟨rfl, b⟩
            have RP := hide (show W5.heap[W1.heap.size]? = some (.cells #[.string pk, .bool po, .bool pb, .slice S pl.length d, .int .i64 pn, .slice T py.length f] 31 (0, 0) : Obj) from row_on b RP.out)
            have RQ := hide (show W5.heap[W3.heap.size]? = some (.cells #[.string pk, .bool po, .bool pb, .slice S9 pl.length d9, .int .i64 pn, .slice T9 py.length f9] 31 (0, 0) : Obj) from row_on b RQ.out)
            have RR := hide (show W5.heap[W3.heap.size + 1]? = some (.cells #[.int .i64 1, .int .i64 0, .string ⟨#[]⟩, .int .i64 NL, .int .i64 F] 33 (0, 0) : Obj) from row_on b RR.out)
            have OS := hide (show RdL W5 2 cellEn (.slice S pl.length d) pl from RdL.below OS.out b (Nat.le_refl _))
            have OT := hide (show RdL W5 2 layerEn (.slice T py.length f) py from RdL.below OT.out b (Nat.le_refl _))
            have OQ := hide (show RdL W5 2 cellEn (.slice S9 pl.length d9) pl from RdL.below OQ.out b (Nat.le_refl _))
            have OV := hide (show RdL W5 2 layerEn (.slice T9 py.length f9) py from RdL.below OV.out b (Nat.le_refl _))
            have BW := below_then BW b
            rw [hpp.out]
            obtain ⟨_, _, _, _, _, _, _⟩ := six_cells RP.out
            obtain ⟨_, _, _, _, _, _, _⟩ := six_cells RQ.out
            obtain ⟨_, _, _, _, _, _⟩ := five_cells RR.out
            go_wp2_with fail
            refine (iFaceOf_c (⟨⟨pk, po, pb, pl, pn⟩, py⟩ : Pu.PartD) _ _ _ OT.out).mono ?_; rintro e W6 ⟨rfl, b⟩
            have RP := hide (show W6.heap[W1.heap.size]? = some (.cells #[.string pk, .bool po, .bool pb, .slice S pl.length d, .int .i64 pn, .slice T py.length f] 31 (0, 0) : Obj) from row_on b RP.out)
            have RQ := hide (show W6.heap[W3.heap.size]? = some (.cells #[.string pk, .bool po, .bool pb, .slice S9 pl.length d9, .int .i64 pn, .slice T9 py.length f9] 31 (0, 0) : Obj) from row_on b RQ.out)
            have RR := hide (show W6.heap[W3.heap.size + 1]? = some (.cells #[.int .i64 1, .int .i64 0, .string ⟨#[]⟩, .int .i64 NL, .int .i64 F] 33 (0, 0) : Obj) from row_on b RR.out)
            have OS := hide (show RdL W6 2 cellEn (.slice S pl.length d) pl from RdL.below OS.out b (Nat.le_refl _))
            have OT := hide (show RdL W6 2 layerEn (.slice T py.length f) py from RdL.below OT.out b (Nat.le_refl _))
            have OQ := hide (show RdL W6 2 cellEn (.slice S9 pl.length d9) pl from RdL.below OQ.out b (Nat.le_refl _))
            have OV := hide (show RdL W6 2 layerEn (.slice T9 py.length f9) py from RdL.below OV.out b (Nat.le_refl _))
            have BW := below_then BW b
            rw [show Pu.faceAt (⟨⟨pk, po, pb, pl, pn⟩, py⟩ : Pu.PartD) (⟨⟨pk, po, pb, pl, pn⟩, py⟩ : Pu.PartD).layers.length = F from hF.out]
            obtain ⟨_, _, _, _, _, _, _⟩ := six_cells RP.out
            obtain ⟨_, _, _, _, _, _, _⟩ := six_cells RQ.out
            obtain ⟨_, _, _, _, _, _⟩ := five_cells RR.out
            go_wp2_with fail
            refine (iOffers_c F NL _).mono ?_; rintro e w' ⟨rfl, rfl⟩
            rw [hof.out]
            obtain ⟨_, _, _, _, _, _, _⟩ := six_cells RP.out
            obtain ⟨_, _, _, _, _, _, _⟩ := six_cells RQ.out
            obtain ⟨_, _, _, _, _, _⟩ := five_cells RR.out
            go_upto_region 13 with fail
            have hzP : W1.heap.size < W6.heap.size := (Array.getElem?_eq_some_iff.1 RP.out).1
            have hzQ : W3.heap.size < W6.heap.size := (Array.getElem?_eq_some_iff.1 RQ.out).1
            have hzR : W3.heap.size + 1 < W6.heap.size := (Array.getElem?_eq_some_iff.1 RR.out).1
            have hgr := guard_reply
            have heq := fun w => eql_reply 1 0 NL F ⟨#[]⟩ ⟨#[]⟩ rfl w
            have h0inv : Below W6.heap.size W6 W6.drew := (Below.refl _ _).drew
            obtain ⟨G, hGdef⟩ : ∃ G : Nat → Value → World → Prop, G = (fun j v wx => match j with | 0 => (v = .agg #[.int .i64 1, .int .i64 0, .string ⟨#[]⟩, .int .i64 NL, .int .i64 F]) | 1 => (v = .int .i64 NL) | 2 => (v = .agg #[.string pk, .bool po, .bool pb, .slice S pl.length d, .int .i64 pn, .slice T py.length f]) | 3 => (v = .int .i64 F) | 4 => (v = .agg #[.int .i64 1, .int .i64 0, .string ⟨#[]⟩, .int .i64 NL, .int .i64 F]) | 5 => (v = .bool true) | 6 => (v = .bool true) | 7 => (v = .agg #[.string pk, .bool po, .bool pb, .slice S pl.length d, .int .i64 pn, .slice T py.length f]) | 8 => (v = .agg #[.string pk, .bool po, .bool pb, .slice S9 pl.length d9, .int .i64 pn, .slice T9 py.length f9]) | 9 => (v = .bool true) | 10 => (v = .bool true) | 11 => (v = .bool true) | _ => True) := ⟨_, rfl⟩
            have G0 : ∀ v wx, G 0 v wx = (v = .agg #[.int .i64 1, .int .i64 0, .string ⟨#[]⟩, .int .i64 NL, .int .i64 F]) := fun v wx => (congrFun (congrFun (congrFun hGdef 0) v) wx).trans rfl
            have G1 : ∀ v wx, G 1 v wx = (v = .int .i64 NL) := fun v wx => (congrFun (congrFun (congrFun hGdef 1) v) wx).trans rfl
            have G2 : ∀ v wx, G 2 v wx = (v = .agg #[.string pk, .bool po, .bool pb, .slice S pl.length d, .int .i64 pn, .slice T py.length f]) := fun v wx => (congrFun (congrFun (congrFun hGdef 2) v) wx).trans rfl
            have G3 : ∀ v wx, G 3 v wx = (v = .int .i64 F) := fun v wx => (congrFun (congrFun (congrFun hGdef 3) v) wx).trans rfl
            have G4 : ∀ v wx, G 4 v wx = (v = .agg #[.int .i64 1, .int .i64 0, .string ⟨#[]⟩, .int .i64 NL, .int .i64 F]) := fun v wx => (congrFun (congrFun (congrFun hGdef 4) v) wx).trans rfl
            have G5 : ∀ v wx, G 5 v wx = (v = .bool true) := fun v wx => (congrFun (congrFun (congrFun hGdef 5) v) wx).trans rfl
            have G6 : ∀ v wx, G 6 v wx = (v = .bool true) := fun v wx => (congrFun (congrFun (congrFun hGdef 6) v) wx).trans rfl
            have G7 : ∀ v wx, G 7 v wx = (v = .agg #[.string pk, .bool po, .bool pb, .slice S pl.length d, .int .i64 pn, .slice T py.length f]) := fun v wx => (congrFun (congrFun (congrFun hGdef 7) v) wx).trans rfl
            have G8 : ∀ v wx, G 8 v wx = (v = .agg #[.string pk, .bool po, .bool pb, .slice S9 pl.length d9, .int .i64 pn, .slice T9 py.length f9]) := fun v wx => (congrFun (congrFun (congrFun hGdef 8) v) wx).trans rfl
            have G9 : ∀ v wx, G 9 v wx = (v = .bool true) := fun v wx => (congrFun (congrFun (congrFun hGdef 9) v) wx).trans rfl
            have G10 : ∀ v wx, G 10 v wx = (v = .bool true) := fun v wx => (congrFun (congrFun (congrFun hGdef 10) v) wx).trans rfl
            have G11 : ∀ v wx, G 11 v wx = (v = .bool true) := fun v wx => (congrFun (congrFun (congrFun hGdef 11) v) wx).trans rfl
            have Gn : ∀ j v wx, G (j + 12) v wx = True := fun j v wx => (congrFun (congrFun (congrFun hGdef _) v) wx).trans rfl
            clear hGdef
            have firm0 : ∀ j v, Firm [] (G j v) := by
              intro j v
              match j with
              | 0 => rw [show G 0 v = (fun wx => v = .agg #[.int .i64 1, .int .i64 0, .string ⟨#[]⟩, .int .i64 NL, .int .i64 F]) from funext (G0 v)]; exact firm_const _
              | 1 => rw [show G 1 v = (fun wx => v = .int .i64 NL) from funext (G1 v)]; exact firm_const _
              | 2 => rw [show G 2 v = (fun wx => v = .agg #[.string pk, .bool po, .bool pb, .slice S pl.length d, .int .i64 pn, .slice T py.length f]) from funext (G2 v)]; exact firm_const _
              | 3 => rw [show G 3 v = (fun wx => v = .int .i64 F) from funext (G3 v)]; exact firm_const _
              | 4 => rw [show G 4 v = (fun wx => v = .agg #[.int .i64 1, .int .i64 0, .string ⟨#[]⟩, .int .i64 NL, .int .i64 F]) from funext (G4 v)]; exact firm_const _
              | 5 => rw [show G 5 v = (fun wx => v = .bool true) from funext (G5 v)]; exact firm_const _
              | 6 => rw [show G 6 v = (fun wx => v = .bool true) from funext (G6 v)]; exact firm_const _
              | 7 => rw [show G 7 v = (fun wx => v = .agg #[.string pk, .bool po, .bool pb, .slice S pl.length d, .int .i64 pn, .slice T py.length f]) from funext (G7 v)]; exact firm_const _
              | 8 => rw [show G 8 v = (fun wx => v = .agg #[.string pk, .bool po, .bool pb, .slice S9 pl.length d9, .int .i64 pn, .slice T9 py.length f9]) from funext (G8 v)]; exact firm_const _
              | 9 => rw [show G 9 v = (fun wx => v = .bool true) from funext (G9 v)]; exact firm_const _
              | 10 => rw [show G 10 v = (fun wx => v = .bool true) from funext (G10 v)]; exact firm_const _
              | 11 => rw [show G 11 v = (fun wx => v = .bool true) from funext (G11 v)]; exact firm_const _
              | j + 12 => rw [show G (j + 12) v = (fun wx => True) from funext (Gn j v)]; exact firm_const _
            refine wp_region_abs W6.heap.size W6 [2, 79, 80, 81, 82, 83, 84, 85, 86, 87, 88, 89] (fun j => match j with | 0 => 79 | 1 => 80 | 2 => 81 | 3 => 82 | 4 => 83 | 5 => 84 | 6 => 85 | 7 => 86 | 8 => 87 | 9 => 88 | 10 => 89 | 11 => 2 | _ => 0) (fun j => match j with | 0 => [] | 1 => [] | 2 => [] | 3 => [2] | 4 => [1, 2, 3] | 5 => [0, 1, 2, 3, 4] | 6 => [0, 1, 2, 3, 4, 5] | 7 => [0, 1, 2, 3, 4, 5, 6] | 8 => [0, 1, 2, 3, 4, 5, 6] | 9 => [0, 1, 2, 3, 4, 5, 6, 7, 8] | 10 => [0, 1, 2, 3, 4, 5, 6, 7, 8, 9] | 11 => [0, 1, 2, 3, 4, 5, 6, 7, 8, 9, 10] | _ => []) G (fun j => match j with | 0 => [] | 1 => [] | 2 => [] | 3 => [] | 4 => [] | 5 => [] | 6 => [] | 7 => [] | 8 => [] | 9 => [] | 10 => [] | 11 => [] | _ => []) 122 (by kernel_rfl) (by kernel_rfl) rfl (by decide) h0inv ?firms ?stps ?fins
            case firms =>
              intro i j hj _ v
              match i with
              | 0 => exact firm0 j v
              | 1 => exact firm0 j v
              | 2 => exact firm0 j v
              | 3 => exact firm0 j v
              | 4 => exact firm0 j v
              | 5 => exact firm0 j v
              | 6 => exact firm0 j v
              | 7 => exact firm0 j v
              | 8 => exact firm0 j v
              | 9 => exact firm0 j v
              | 10 => exact firm0 j v
              | 11 => exact firm0 j v
              | i + 12 => exact firm0 j v
            case stps =>
              refine StepsFrom.cons ?ops_0 (StepsFrom.cons ?ops_1 (StepsFrom.cons ?ops_2 (StepsFrom.cons ?ops_3 (StepsFrom.cons ?ops_4 (StepsFrom.cons ?ops_5 (StepsFrom.cons ?ops_6 (StepsFrom.cons ?ops_7 (StepsFrom.cons ?ops_8 (StepsFrom.cons ?ops_9 (StepsFrom.cons ?ops_10 (StepsFrom.cons ?ops_11 (StepsFrom.nil))))))))))))
              case ops_0 =>
                intro vs wy b hin hout hb hdep K hK
                have t6 : b.tmps[6]? = some (.pointer (some ⟨W3.heap.size + 1, 0, none⟩)) := (hout 6 (by decide)).trans rfl
                clear hin hout hdep
                replace hK : ∀ v w', Below W6.heap.size W6 w' → Moved [] wy w' → (fun (v : Value) (wx : World) => v = .agg #[.int .i64 1, .int .i64 0, .string ⟨#[]⟩, .int .i64 NL, .int .i64 F]) v w' → K (b.put (some 79) v) w' := fun v w' q1 q2 q3 => hK v w' q1 q2 (Eq.mpr (G0 _ _) q3)
                refine ⟨wanted_plain rfl, ?_⟩
                have KW : ∀ k : Nat, wy.cell? ⟨W3.heap.size + 1, k, none⟩ = _ := fun k => hb.cell hzR
                go_simp
                exact hK _ _ hb (moved_refl _) rfl
              case ops_1 =>
                intro vs wy b hin hout hb hdep K hK
                have t7 : b.tmps[7]? = some (.int .i64 NL) := (hout 7 (by decide)).trans rfl
                clear hin hout hdep
                replace hK : ∀ v w', Below W6.heap.size W6 w' → Moved [] wy w' → (fun (v : Value) (wx : World) => v = .int .i64 NL) v w' → K (b.put (some 80) v) w' := fun v w' q1 q2 q3 => hK v w' q1 q2 (Eq.mpr (G1 _ _) q3)
                refine ⟨wanted_plain rfl, ?_⟩
                go_simp
                exact hK _ _ hb (moved_refl _) rfl
              case ops_2 =>
                intro vs wy b hin hout hb hdep K hK
                have t3 : b.tmps[3]? = some (.pointer (some ⟨W1.heap.size, 0, none⟩)) := (hout 3 (by decide)).trans rfl
                clear hin hout hdep
                replace hK : ∀ v w', Below W6.heap.size W6 w' → Moved [] wy w' → (fun (v : Value) (wx : World) => v = .agg #[.string pk, .bool po, .bool pb, .slice S pl.length d, .int .i64 pn, .slice T py.length f]) v w' → K (b.put (some 81) v) w' := fun v w' q1 q2 q3 => hK v w' q1 q2 (Eq.mpr (G2 _ _) q3)
                refine ⟨wanted_plain rfl, ?_⟩
                have KW : ∀ k : Nat, wy.cell? ⟨W1.heap.size, k, none⟩ = _ := fun k => hb.cell hzP
                go_simp
                exact hK _ _ hb (moved_refl _) rfl
              case ops_3 =>
                intro vs wy b hin hout hb hdep K hK
                have h2 : (fun (v : Value) (wx : World) => v = .agg #[.string pk, .bool po, .bool pb, .slice S pl.length d, .int .i64 pn, .slice T py.length f]) (vs 81) wy := by
                  have h := hdep 2 (by decide)
                  rw [G2] at h
                  exact h
                dsimp only at h2
                have t81 := hin 81 (by decide)
                clear hin hout hdep
                replace hK : ∀ v w', Below W6.heap.size W6 w' → Moved [] wy w' → (fun (v : Value) (wx : World) => v = .int .i64 F) v w' → K (b.put (some 82) v) w' := fun v w' q1 q2 q3 => hK v w' q1 q2 (Eq.mpr (G3 _ _) q3)
                refine ⟨wanted_plain rfl, ?_⟩
                go_simp
                refine (iFaceOf_c (⟨⟨pk, po, pb, pl, pn⟩, py⟩ : Pu.PartD) _ _ _ (RdL.below OT.out hb (Nat.le_refl _))).mono ?_
                rintro e wz ⟨rfl, bT⟩
                rw [show Pu.faceAt (⟨⟨pk, po, pb, pl, pn⟩, py⟩ : Pu.PartD) (⟨⟨pk, po, pb, pl, pn⟩, py⟩ : Pu.PartD).layers.length = F from hF.out]
                exact hK _ _ (below_then hb bT) (.inl bT) rfl
              case ops_4 =>
                intro vs wy b hin hout hb hdep K hK
                have h1 : (fun (v : Value) (wx : World) => v = .int .i64 NL) (vs 80) wy := by
                  have h := hdep 1 (by decide)
                  rw [G1] at h
                  exact h
                dsimp only at h1
                have h3 : (fun (v : Value) (wx : World) => v = .int .i64 F) (vs 82) wy := by
                  have h := hdep 3 (by decide)
                  rw [G3] at h
                  exact h
                dsimp only at h3
                have t80 := hin 80 (by decide)
                have t82 := hin 82 (by decide)
                clear hin hout hdep
                replace hK : ∀ v w', Below W6.heap.size W6 w' → Moved [] wy w' → (fun (v : Value) (wx : World) => v = .agg #[.int .i64 1, .int .i64 0, .string ⟨#[]⟩, .int .i64 NL, .int .i64 F]) v w' → K (b.put (some 83) v) w' := fun v w' q1 q2 q3 => hK v w' q1 q2 (Eq.mpr (G4 _ _) q3)
                refine ⟨wanted_plain rfl, ?_⟩
                go_simp
                exact hK _ _ hb (moved_refl _) rfl
              case ops_5 =>
                intro vs wy b hin hout hb hdep K hK
                have h0 : (fun (v : Value) (wx : World) => v = .agg #[.int .i64 1, .int .i64 0, .string ⟨#[]⟩, .int .i64 NL, .int .i64 F]) (vs 79) wy := by
                  have h := hdep 0 (by decide)
                  rw [G0] at h
                  exact h
                dsimp only at h0
                have h4 : (fun (v : Value) (wx : World) => v = .agg #[.int .i64 1, .int .i64 0, .string ⟨#[]⟩, .int .i64 NL, .int .i64 F]) (vs 83) wy := by
                  have h := hdep 4 (by decide)
                  rw [G4] at h
                  exact h
                dsimp only at h4
                have t79 := hin 79 (by decide)
                have t83 := hin 83 (by decide)
                clear hin hout hdep
                replace hK : ∀ v w', Below W6.heap.size W6 w' → Moved [] wy w' → (fun (v : Value) (wx : World) => v = .bool true) v w' → K (b.put (some 84) v) w' := fun v w' q1 q2 q3 => hK v w' q1 q2 (Eq.mpr (G5 _ _) q3)
                refine ⟨wanted_plain rfl, ?_⟩
                go_simp
                exact hK _ _ hb (moved_refl _) rfl
              case ops_6 =>
                intro vs wy b hin hout hb hdep K hK
                have h5 : (fun (v : Value) (wx : World) => v = .bool true) (vs 84) wy := by
                  have h := hdep 5 (by decide)
                  rw [G5] at h
                  exact h
                dsimp only at h5
                have t84 := hin 84 (by decide)
                clear hin hout hdep
                replace hK : ∀ v w', Below W6.heap.size W6 w' → Moved [] wy w' → (fun (v : Value) (wx : World) => v = .bool true) v w' → K (b.put (some 85) v) w' := fun v w' q1 q2 q3 => hK v w' q1 q2 (Eq.mpr (G6 _ _) q3)
                refine ⟨wanted_plain rfl, ?_⟩
                go_simp
                exact hK _ _ hb (moved_refl _) rfl
              case ops_7 =>
                intro vs wy b hin hout hb hdep K hK
                have h6 : (fun (v : Value) (wx : World) => v = .bool true) (vs 85) wy := by
                  have h := hdep 6 (by decide)
                  rw [G6] at h
                  exact h
                dsimp only at h6
                have t85 := hin 85 (by decide)
                have t3 : b.tmps[3]? = some (.pointer (some ⟨W1.heap.size, 0, none⟩)) := (hout 3 (by decide)).trans rfl
                clear hin hout hdep
                replace hK : ∀ v w', Below W6.heap.size W6 w' → Moved [] wy w' → (fun (v : Value) (wx : World) => v = .agg #[.string pk, .bool po, .bool pb, .slice S pl.length d, .int .i64 pn, .slice T py.length f]) v w' → K (b.put (some 86) v) w' := fun v w' q1 q2 q3 => hK v w' q1 q2 (Eq.mpr (G7 _ _) q3)
                refine ⟨by simp [Region.wanted, yielded, t85, h6], ?_⟩
                have KW : ∀ k : Nat, wy.cell? ⟨W1.heap.size, k, none⟩ = _ := fun k => hb.cell hzP
                go_simp
                exact hK _ _ hb (moved_refl _) rfl
              case ops_8 =>
                intro vs wy b hin hout hb hdep K hK
                have h6 : (fun (v : Value) (wx : World) => v = .bool true) (vs 85) wy := by
                  have h := hdep 6 (by decide)
                  rw [G6] at h
                  exact h
                dsimp only at h6
                have t85 := hin 85 (by decide)
                have t5 : b.tmps[5]? = some (.pointer (some ⟨W3.heap.size, 0, none⟩)) := (hout 5 (by decide)).trans rfl
                clear hin hout hdep
                replace hK : ∀ v w', Below W6.heap.size W6 w' → Moved [] wy w' → (fun (v : Value) (wx : World) => v = .agg #[.string pk, .bool po, .bool pb, .slice S9 pl.length d9, .int .i64 pn, .slice T9 py.length f9]) v w' → K (b.put (some 87) v) w' := fun v w' q1 q2 q3 => hK v w' q1 q2 (Eq.mpr (G8 _ _) q3)
                refine ⟨by simp [Region.wanted, yielded, t85, h6], ?_⟩
                have KW : ∀ k : Nat, wy.cell? ⟨W3.heap.size, k, none⟩ = _ := fun k => hb.cell hzQ
                go_simp
                exact hK _ _ hb (moved_refl _) rfl
              case ops_9 =>
                intro vs wy b hin hout hb hdep K hK
                have h7 : (fun (v : Value) (wx : World) => v = .agg #[.string pk, .bool po, .bool pb, .slice S pl.length d, .int .i64 pn, .slice T py.length f]) (vs 86) wy := by
                  have h := hdep 7 (by decide)
                  rw [G7] at h
                  exact h
                dsimp only at h7
                have h8 : (fun (v : Value) (wx : World) => v = .agg #[.string pk, .bool po, .bool pb, .slice S9 pl.length d9, .int .i64 pn, .slice T9 py.length f9]) (vs 87) wy := by
                  have h := hdep 8 (by decide)
                  rw [G8] at h
                  exact h
                dsimp only at h8
                have h6 : (fun (v : Value) (wx : World) => v = .bool true) (vs 85) wy := by
                  have h := hdep 6 (by decide)
                  rw [G6] at h
                  exact h
                dsimp only at h6
                have t85 := hin 85 (by decide)
                have t86 := hin 86 (by decide)
                have t87 := hin 87 (by decide)
                clear hin hout hdep
                replace hK : ∀ v w', Below W6.heap.size W6 w' → Moved [] wy w' → (fun (v : Value) (wx : World) => v = .bool true) v w' → K (b.put (some 88) v) w' := fun v w' q1 q2 q3 => hK v w' q1 q2 (Eq.mpr (G9 _ _) q3)
                refine ⟨by simp [Region.wanted, yielded, t85, h6], ?_⟩
                go_simp
                refine (iSamePart_c (⟨⟨pk, po, pb, pl, pn⟩, py⟩ : Pu.PartD) (⟨⟨pk, po, pb, pl, pn⟩, py⟩ : Pu.PartD) _ _ _ _ _ (RdL.below OS.out hb (Nat.le_refl _)) (RdL.below OT.out hb (Nat.le_refl _)) (RdL.below OQ.out hb (Nat.le_refl _)) (RdL.below OV.out hb (Nat.le_refl _))).mono ?_
                rintro e wz ⟨rfl, bT⟩
                rw [Pu.samePart_refl]
                exact hK _ _ (below_then hb bT) (.inl bT) rfl
              case ops_10 =>
                intro vs wy b hin hout hb hdep K hK
                have h6 : (fun (v : Value) (wx : World) => v = .bool true) (vs 85) wy := by
                  have h := hdep 6 (by decide)
                  rw [G6] at h
                  exact h
                dsimp only at h6
                have h9 : (fun (v : Value) (wx : World) => v = .bool true) (vs 88) wy := by
                  have h := hdep 9 (by decide)
                  rw [G9] at h
                  exact h
                dsimp only at h9
                have t85 := hin 85 (by decide)
                have t88 := hin 88 (by decide)
                clear hin hout hdep
                replace hK : ∀ v w', Below W6.heap.size W6 w' → Moved [] wy w' → (fun (v : Value) (wx : World) => v = .bool true) v w' → K (b.put (some 89) v) w' := fun v w' q1 q2 q3 => hK v w' q1 q2 (Eq.mpr (G10 _ _) q3)
                refine ⟨wanted_plain rfl, ?_⟩
                go_simp
                exact hK _ _ hb (moved_refl _) rfl
              case ops_11 =>
                intro vs wy b hin hout hb hdep K hK
                have h10 : (fun (v : Value) (wx : World) => v = .bool true) (vs 89) wy := by
                  have h := hdep 10 (by decide)
                  rw [G10] at h
                  exact h
                dsimp only at h10
                have t89 := hin 89 (by decide)
                clear hin hout hdep
                replace hK : ∀ v w', Below W6.heap.size W6 w' → Moved [] wy w' → (fun (v : Value) (wx : World) => v = .bool true) v w' → K (b.put (some 2) v) w' := fun v w' q1 q2 q3 => hK v w' q1 q2 (Eq.mpr (G11 _ _) q3)
                refine ⟨wanted_plain rfl, ?_⟩
                go_simp
                exact hK _ _ hb (moved_refl _) rfl
            case fins =>
              intro vs wz b hin hbeq hb hall
              have f11 : (fun (v : Value) (wx : World) => v = .bool true) (vs 2) wz := by
                have h := hall 11 (by decide)
                rw [G11] at h
                exact h
              dsimp only at f11
              clear hall hin
              subst hbeq
              simp only [actAt, slots, List.foldl_cons, List.foldl_nil, List.setIfInBounds_toArray, List.set_cons_zero, List.set_cons_succ]
              go_wp2
              go_ret
              exact ⟨by first | rfl | (rw [f11]; rfl), below_then BW hb⟩
          · replace hof := hide hof
            have hL := Pu.wrapR_ok (p := (⟨⟨pk, po, pb, pl, pn⟩, py⟩ : Pu.PartD)) (n := nm) hpp.out hok.out h3 (show Pu.offersB (Pu.faceAt (⟨⟨pk, po, pb, pl, pn⟩, py⟩ : Pu.PartD) py.length) (Pu.layN nm.toList) = true by rw [hF.out, hNL.out]; exact hof.out)
            rw [hGL.out] at hL
            obtain ⟨hr, hq, hb, hfa, huo, hup⟩ := hL
            obtain ⟨qy, hqy⟩ : ∃ qy, py ++ [(⟨nm, 0⟩ : Pu.LayerD)] = qy := ⟨_, rfl⟩
            dsimp only at hq hb hfa huo hup
            rw [hqy] at hq hb hfa huo hup
            have hqn : qy.length ≤ 4 := by rw [← hqy]; simp; omega
            have hql : qy.length ≤ 16777216 := by omega
            clear hqy
            have HB := hide hb
            have HFA := hide hfa
            have HUO := hide huo
            have HUP := hide hup
            clear hb hfa huo hup
            have HQ := hide hq
            have HR := hide hr
            clear hq hr
            refine (iWrap_c (⟨⟨pk, po, pb, pl, pn⟩, py⟩ : Pu.PartD) nm _ _ _ HWF.out ⟨OS.out, HWC.out⟩ OT.out hpl hpy).mono ?_; rintro e W3 ⟨⟨s9, t9, rfl, os, ot, _⟩, b⟩
            rw [HQ.out] at os ot ⊢
            rw [HR.out]
            dsimp only at os ot
            obtain ⟨S9, d9, rfl⟩ := os.shape
            obtain ⟨T9, f9, rfl⟩ := ot.shape
            unfold partV replyV
            dsimp only
            have RP := hide (show W3.heap[W1.heap.size]? = some (.cells #[.string pk, .bool po, .bool pb, .slice S pl.length d, .int .i64 pn, .slice T py.length f] 31 (0, 0) : Obj) from row_on b RP.out)
            have OS := hide (show RdL W3 2 cellEn (.slice S pl.length d) pl from RdL.below OS.out b (Nat.le_refl _))
            have OT := hide (show RdL W3 2 layerEn (.slice T py.length f) py from RdL.below OT.out b (Nat.le_refl _))
            have BW := below_then BW b
            have OQ := hide (show RdL W3 2 cellEn (.slice S9 pl.length d9) pl from os.rd (fun _ => rfl))
            have OV := hide (show RdL W3 2 layerEn (.slice T9 qy.length f9) qy from ot.rd (fun _ => rfl))
            clear os ot
            obtain ⟨W4, hW4⟩ : ∃ W, Hid ((W3.alloc (.cells #[.string pk, .bool po, .bool pb, .slice S9 pl.length d9, .int .i64 pn, .slice T9 qy.length f9] 31 : Obj)).alloc (.cells #[.int .i64 0, .int .i64 GL, .string ⟨#[]⟩, .int .i64 0, .int .i64 0] 33 : Obj) = W) := ⟨_, rfl⟩
            have b : Below W3.heap.size W3 W4 := by rw [← hW4.out]; exact below_alloc (below_alloc (Below.refl _ _) _) _
            have RP := hide (show W4.heap[W1.heap.size]? = some (.cells #[.string pk, .bool po, .bool pb, .slice S pl.length d, .int .i64 pn, .slice T py.length f] 31 (0, 0) : Obj) from row_on b RP.out)
            have OS := hide (show RdL W4 2 cellEn (.slice S pl.length d) pl from RdL.below OS.out b (Nat.le_refl _))
            have OT := hide (show RdL W4 2 layerEn (.slice T py.length f) py from RdL.below OT.out b (Nat.le_refl _))
            have OQ := hide (show RdL W4 2 cellEn (.slice S9 pl.length d9) pl from RdL.below OQ.out b (Nat.le_refl _))
            have OV := hide (show RdL W4 2 layerEn (.slice T9 qy.length f9) qy from RdL.below OV.out b (Nat.le_refl _))
            have BW := below_then BW b
            have RQ := hide (show W4.heap[W3.heap.size]? = some (.cells #[.string pk, .bool po, .bool pb, .slice S9 pl.length d9, .int .i64 pn, .slice T9 qy.length f9] 31 (0, 0) : Obj) by rw [← hW4.out]; exact heap_old (by simp) (heap_new rfl))
            have RR := hide (show W4.heap[W3.heap.size + 1]? = some (.cells #[.int .i64 0, .int .i64 GL, .string ⟨#[]⟩, .int .i64 0, .int .i64 0] 33 (0, 0) : Obj) by rw [← hW4.out]; exact heap_new (by simp))
            have EP := hide (show ((W3.alloc (.cells #[.string pk, .bool po, .bool pb, .slice S9 pl.length d9, .int .i64 pn, .slice T9 qy.length f9] 31 : Obj)).alloc (.cells #[.int .i64 0, .int .i64 GL, .string ⟨#[]⟩, .int .i64 0, .int .i64 0] 33 : Obj)).heap[W1.heap.size]? = some (.cells #[.string pk, .bool po, .bool pb, .slice S pl.length d, .int .i64 pn, .slice T py.length f] 31 (0, 0) : Obj) by rw [hW4.out]; exact RP.out)
            have EQ := hide (show ((W3.alloc (.cells #[.string pk, .bool po, .bool pb, .slice S9 pl.length d9, .int .i64 pn, .slice T9 qy.length f9] 31 : Obj)).alloc (.cells #[.int .i64 0, .int .i64 GL, .string ⟨#[]⟩, .int .i64 0, .int .i64 0] 33 : Obj)).heap[W3.heap.size]? = some (.cells #[.string pk, .bool po, .bool pb, .slice S9 pl.length d9, .int .i64 pn, .slice T9 qy.length f9] 31 (0, 0) : Obj) by rw [hW4.out]; exact RQ.out)
            have ER := hide (show ((W3.alloc (.cells #[.string pk, .bool po, .bool pb, .slice S9 pl.length d9, .int .i64 pn, .slice T9 qy.length f9] 31 : Obj)).alloc (.cells #[.int .i64 0, .int .i64 GL, .string ⟨#[]⟩, .int .i64 0, .int .i64 0] 33 : Obj)).heap[W3.heap.size + 1]? = some (.cells #[.int .i64 0, .int .i64 GL, .string ⟨#[]⟩, .int .i64 0, .int .i64 0] 33 (0, 0) : Obj) by rw [hW4.out]; exact RR.out)
            obtain ⟨_, _, _, _, _, _, _⟩ := six_cells EP.out
            obtain ⟨_, _, _, _, _, _, _⟩ := six_cells EQ.out
            obtain ⟨_, _, _, _, _, _⟩ := five_cells ER.out
            have h3b : ((py.length : Int) == 3) = false := by simp; omega
            have h3c : ¬ (py.length : Int) = 3 := by omega
            obtain ⟨_, _, _, _, _, _, _⟩ := six_cells RP.out
            obtain ⟨_, _, _, _, _, _, _⟩ := six_cells RQ.out
            obtain ⟨_, _, _, _, _, _⟩ := five_cells RR.out
            go_wp2_with fail
            rw [hW4.out]
            refine (iLayerNeeds_c nm _).mono ?_; rintro e w' ⟨rfl, rfl⟩
            rw [hok.out, hNL.out]
            obtain ⟨_, _, _, _, _, _, _⟩ := six_cells RP.out
            obtain ⟨_, _, _, _, _, _, _⟩ := six_cells RQ.out
            obtain ⟨_, _, _, _, _, _⟩ := five_cells RR.out
            go_wp2_with fail
            refine (iLayerGives_c nm _).mono ?_; rintro e w' ⟨rfl, rfl⟩
            rw [hok.out, hGL.out]
            obtain ⟨_, _, _, _, _, _, _⟩ := six_cells RP.out
            obtain ⟨_, _, _, _, _, _, _⟩ := six_cells RQ.out
            obtain ⟨_, _, _, _, _, _⟩ := five_cells RR.out
            go_wp2_with fail
            refine (iIsPart_c (⟨⟨pk, po, pb, pl, pn⟩, py⟩ : Pu.PartD) _ _ _ HWF.out ⟨OS.out, HWC.out⟩ OT.out).mono ?_; rintro e W5 ⟨rfl, b⟩
            have RP := hide (show W5.heap[W1.heap.size]? = some (.cells #[.string pk, .bool po, .bool pb, .slice S pl.length d, .int .i64 pn, .slice T py.length f] 31 (0, 0) : Obj) from row_on b RP.out)
            have RQ := hide (show W5.heap[W3.heap.size]? = some (.cells #[.string pk, .bool po, .bool pb, .slice S9 pl.length d9, .int .i64 pn, .slice T9 qy.length f9] 31 (0, 0) : Obj) from row_on b RQ.out)
            have RR := hide (show W5.heap[W3.heap.size + 1]? = some (.cells #[.int .i64 0, .int .i64 GL, .string ⟨#[]⟩, .int .i64 0, .int .i64 0] 33 (0, 0) : Obj) from row_on b RR.out)
            have OS := hide (show RdL W5 2 cellEn (.slice S pl.length d) pl from RdL.below OS.out b (Nat.le_refl _))
            have OT := hide (show RdL W5 2 layerEn (.slice T py.length f) py from RdL.below OT.out b (Nat.le_refl _))
            have OQ := hide (show RdL W5 2 cellEn (.slice S9 pl.length d9) pl from RdL.below OQ.out b (Nat.le_refl _))
            have OV := hide (show RdL W5 2 layerEn (.slice T9 qy.length f9) qy from RdL.below OV.out b (Nat.le_refl _))
            have BW := below_then BW b
            rw [hpp.out]
            obtain ⟨_, _, _, _, _, _, _⟩ := six_cells RP.out
            obtain ⟨_, _, _, _, _, _, _⟩ := six_cells RQ.out
            obtain ⟨_, _, _, _, _, _⟩ := five_cells RR.out
            go_wp2_with fail
            refine (iFaceOf_c (⟨⟨pk, po, pb, pl, pn⟩, py⟩ : Pu.PartD) _ _ _ OT.out).mono ?_; rintro e W6 ⟨rfl, b⟩
            have RP := hide (show W6.heap[W1.heap.size]? = some (.cells #[.string pk, .bool po, .bool pb, .slice S pl.length d, .int .i64 pn, .slice T py.length f] 31 (0, 0) : Obj) from row_on b RP.out)
            have RQ := hide (show W6.heap[W3.heap.size]? = some (.cells #[.string pk, .bool po, .bool pb, .slice S9 pl.length d9, .int .i64 pn, .slice T9 qy.length f9] 31 (0, 0) : Obj) from row_on b RQ.out)
            have RR := hide (show W6.heap[W3.heap.size + 1]? = some (.cells #[.int .i64 0, .int .i64 GL, .string ⟨#[]⟩, .int .i64 0, .int .i64 0] 33 (0, 0) : Obj) from row_on b RR.out)
            have OS := hide (show RdL W6 2 cellEn (.slice S pl.length d) pl from RdL.below OS.out b (Nat.le_refl _))
            have OT := hide (show RdL W6 2 layerEn (.slice T py.length f) py from RdL.below OT.out b (Nat.le_refl _))
            have OQ := hide (show RdL W6 2 cellEn (.slice S9 pl.length d9) pl from RdL.below OQ.out b (Nat.le_refl _))
            have OV := hide (show RdL W6 2 layerEn (.slice T9 qy.length f9) qy from RdL.below OV.out b (Nat.le_refl _))
            have BW := below_then BW b
            rw [show Pu.faceAt (⟨⟨pk, po, pb, pl, pn⟩, py⟩ : Pu.PartD) (⟨⟨pk, po, pb, pl, pn⟩, py⟩ : Pu.PartD).layers.length = F from hF.out]
            obtain ⟨_, _, _, _, _, _, _⟩ := six_cells RP.out
            obtain ⟨_, _, _, _, _, _, _⟩ := six_cells RQ.out
            obtain ⟨_, _, _, _, _, _⟩ := five_cells RR.out
            go_wp2_with fail
            refine (iOffers_c F NL _).mono ?_; rintro e w' ⟨rfl, rfl⟩
            rw [hof.out]
            obtain ⟨_, _, _, _, _, _, _⟩ := six_cells RP.out
            obtain ⟨_, _, _, _, _, _, _⟩ := six_cells RQ.out
            obtain ⟨_, _, _, _, _, _⟩ := five_cells RR.out
            go_wp2_with fail
            refine (iUnwrap_c (⟨⟨pk, po, pb, pl, pn⟩, qy⟩ : Pu.PartD) _ _ _ HWF.out ⟨OQ.out, HWC.out⟩ OV.out hpl hql).mono ?_; rintro e W7 ⟨⟨s8, t8, rfl, os, ot, _⟩, b⟩
            rw [HUP.out] at os ot ⊢
            rw [HUO.out]
            dsimp only at os ot
            obtain ⟨S8, d8, rfl⟩ := os.shape
            obtain ⟨T8, f8, rfl⟩ := ot.shape
            unfold partV
            dsimp only
            have RP := hide (show W7.heap[W1.heap.size]? = some (.cells #[.string pk, .bool po, .bool pb, .slice S pl.length d, .int .i64 pn, .slice T py.length f] 31 (0, 0) : Obj) from row_on b RP.out)
            have RQ := hide (show W7.heap[W3.heap.size]? = some (.cells #[.string pk, .bool po, .bool pb, .slice S9 pl.length d9, .int .i64 pn, .slice T9 qy.length f9] 31 (0, 0) : Obj) from row_on b RQ.out)
            have RR := hide (show W7.heap[W3.heap.size + 1]? = some (.cells #[.int .i64 0, .int .i64 GL, .string ⟨#[]⟩, .int .i64 0, .int .i64 0] 33 (0, 0) : Obj) from row_on b RR.out)
            have OS := hide (show RdL W7 2 cellEn (.slice S pl.length d) pl from RdL.below OS.out b (Nat.le_refl _))
            have OT := hide (show RdL W7 2 layerEn (.slice T py.length f) py from RdL.below OT.out b (Nat.le_refl _))
            have OQ := hide (show RdL W7 2 cellEn (.slice S9 pl.length d9) pl from RdL.below OQ.out b (Nat.le_refl _))
            have OV := hide (show RdL W7 2 layerEn (.slice T9 qy.length f9) qy from RdL.below OV.out b (Nat.le_refl _))
            have BW := below_then BW b
            have OU := hide (show RdL W7 2 cellEn (.slice S8 pl.length d8) pl from os.rd (fun _ => rfl))
            have OX := hide (show RdL W7 2 layerEn (.slice T8 py.length f8) py from ot.rd (fun _ => rfl))
            clear os ot
            obtain ⟨W8, hW8⟩ : ∃ W, Hid (W7.alloc (.cells #[.string pk, .bool po, .bool pb, .slice S8 pl.length d8, .int .i64 pn, .slice T8 py.length f8] 31 : Obj) = W) := ⟨_, rfl⟩
            have b : Below W7.heap.size W7 W8 := by rw [← hW8.out]; exact below_alloc (Below.refl _ _) _
            have RP := hide (show W8.heap[W1.heap.size]? = some (.cells #[.string pk, .bool po, .bool pb, .slice S pl.length d, .int .i64 pn, .slice T py.length f] 31 (0, 0) : Obj) from row_on b RP.out)
            have RQ := hide (show W8.heap[W3.heap.size]? = some (.cells #[.string pk, .bool po, .bool pb, .slice S9 pl.length d9, .int .i64 pn, .slice T9 qy.length f9] 31 (0, 0) : Obj) from row_on b RQ.out)
            have RR := hide (show W8.heap[W3.heap.size + 1]? = some (.cells #[.int .i64 0, .int .i64 GL, .string ⟨#[]⟩, .int .i64 0, .int .i64 0] 33 (0, 0) : Obj) from row_on b RR.out)
            have OS := hide (show RdL W8 2 cellEn (.slice S pl.length d) pl from RdL.below OS.out b (Nat.le_refl _))
            have OT := hide (show RdL W8 2 layerEn (.slice T py.length f) py from RdL.below OT.out b (Nat.le_refl _))
            have OQ := hide (show RdL W8 2 cellEn (.slice S9 pl.length d9) pl from RdL.below OQ.out b (Nat.le_refl _))
            have OV := hide (show RdL W8 2 layerEn (.slice T9 qy.length f9) qy from RdL.below OV.out b (Nat.le_refl _))
            have OU := hide (show RdL W8 2 cellEn (.slice S8 pl.length d8) pl from RdL.below OU.out b (Nat.le_refl _))
            have OX := hide (show RdL W8 2 layerEn (.slice T8 py.length f8) py from RdL.below OX.out b (Nat.le_refl _))
            have BW := below_then BW b
            have RU := hide (show W8.heap[W7.heap.size]? = some (.cells #[.string pk, .bool po, .bool pb, .slice S8 pl.length d8, .int .i64 pn, .slice T8 py.length f8] 31 (0, 0) : Obj) by rw [← hW8.out]; exact heap_new rfl)
            have EP := hide (show (W7.alloc (.cells #[.string pk, .bool po, .bool pb, .slice S8 pl.length d8, .int .i64 pn, .slice T8 py.length f8] 31 : Obj)).heap[W1.heap.size]? = some (.cells #[.string pk, .bool po, .bool pb, .slice S pl.length d, .int .i64 pn, .slice T py.length f] 31 (0, 0) : Obj) by rw [hW8.out]; exact RP.out)
            have EQ := hide (show (W7.alloc (.cells #[.string pk, .bool po, .bool pb, .slice S8 pl.length d8, .int .i64 pn, .slice T8 py.length f8] 31 : Obj)).heap[W3.heap.size]? = some (.cells #[.string pk, .bool po, .bool pb, .slice S9 pl.length d9, .int .i64 pn, .slice T9 qy.length f9] 31 (0, 0) : Obj) by rw [hW8.out]; exact RQ.out)
            have ER := hide (show (W7.alloc (.cells #[.string pk, .bool po, .bool pb, .slice S8 pl.length d8, .int .i64 pn, .slice T8 py.length f8] 31 : Obj)).heap[W3.heap.size + 1]? = some (.cells #[.int .i64 0, .int .i64 GL, .string ⟨#[]⟩, .int .i64 0, .int .i64 0] 33 (0, 0) : Obj) by rw [hW8.out]; exact RR.out)
            have EU := hide (show (W7.alloc (.cells #[.string pk, .bool po, .bool pb, .slice S8 pl.length d8, .int .i64 pn, .slice T8 py.length f8] 31 : Obj)).heap[W7.heap.size]? = some (.cells #[.string pk, .bool po, .bool pb, .slice S8 pl.length d8, .int .i64 pn, .slice T8 py.length f8] 31 (0, 0) : Obj) by rw [hW8.out]; exact RU.out)
            obtain ⟨_, _, _, _, _, _, _⟩ := six_cells EP.out
            obtain ⟨_, _, _, _, _, _, _⟩ := six_cells EQ.out
            obtain ⟨_, _, _, _, _, _⟩ := five_cells ER.out
            obtain ⟨_, _, _, _, _, _, _⟩ := six_cells EU.out
            obtain ⟨_, _, _, _, _, _, _⟩ := six_cells RP.out
            obtain ⟨_, _, _, _, _, _, _⟩ := six_cells RQ.out
            obtain ⟨_, _, _, _, _, _⟩ := five_cells RR.out
            obtain ⟨_, _, _, _, _, _, _⟩ := six_cells RU.out
            go_wp2_with fail
            rw [hW8.out]
            refine (iFaceOf_c (⟨⟨pk, po, pb, pl, pn⟩, qy⟩ : Pu.PartD) _ _ _ OV.out).mono ?_; rintro e W9 ⟨rfl, b⟩
            have RP := hide (show W9.heap[W1.heap.size]? = some (.cells #[.string pk, .bool po, .bool pb, .slice S pl.length d, .int .i64 pn, .slice T py.length f] 31 (0, 0) : Obj) from row_on b RP.out)
            have RQ := hide (show W9.heap[W3.heap.size]? = some (.cells #[.string pk, .bool po, .bool pb, .slice S9 pl.length d9, .int .i64 pn, .slice T9 qy.length f9] 31 (0, 0) : Obj) from row_on b RQ.out)
            have RR := hide (show W9.heap[W3.heap.size + 1]? = some (.cells #[.int .i64 0, .int .i64 GL, .string ⟨#[]⟩, .int .i64 0, .int .i64 0] 33 (0, 0) : Obj) from row_on b RR.out)
            have RU := hide (show W9.heap[W7.heap.size]? = some (.cells #[.string pk, .bool po, .bool pb, .slice S8 pl.length d8, .int .i64 pn, .slice T8 py.length f8] 31 (0, 0) : Obj) from row_on b RU.out)
            have OS := hide (show RdL W9 2 cellEn (.slice S pl.length d) pl from RdL.below OS.out b (Nat.le_refl _))
            have OT := hide (show RdL W9 2 layerEn (.slice T py.length f) py from RdL.below OT.out b (Nat.le_refl _))
            have OQ := hide (show RdL W9 2 cellEn (.slice S9 pl.length d9) pl from RdL.below OQ.out b (Nat.le_refl _))
            have OV := hide (show RdL W9 2 layerEn (.slice T9 qy.length f9) qy from RdL.below OV.out b (Nat.le_refl _))
            have OU := hide (show RdL W9 2 cellEn (.slice S8 pl.length d8) pl from RdL.below OU.out b (Nat.le_refl _))
            have OX := hide (show RdL W9 2 layerEn (.slice T8 py.length f8) py from RdL.below OX.out b (Nat.le_refl _))
            have BW := below_then BW b
            rw [show Pu.faceAt (⟨⟨pk, po, pb, pl, pn⟩, qy⟩ : Pu.PartD) (⟨⟨pk, po, pb, pl, pn⟩, qy⟩ : Pu.PartD).layers.length = GL from HFA.out]
            obtain ⟨_, _, _, _, _, _, _⟩ := six_cells RP.out
            obtain ⟨_, _, _, _, _, _, _⟩ := six_cells RQ.out
            obtain ⟨_, _, _, _, _, _⟩ := five_cells RR.out
            obtain ⟨_, _, _, _, _, _, _⟩ := six_cells RU.out
            go_wp2_with fail
            refine (iIsPart_c (⟨⟨pk, po, pb, pl, pn⟩, qy⟩ : Pu.PartD) _ _ _ HWF.out ⟨OQ.out, HWC.out⟩ OV.out).mono ?_; rintro e W10 ⟨rfl, b⟩
            have RP := hide (show W10.heap[W1.heap.size]? = some (.cells #[.string pk, .bool po, .bool pb, .slice S pl.length d, .int .i64 pn, .slice T py.length f] 31 (0, 0) : Obj) from row_on b RP.out)
            have RQ := hide (show W10.heap[W3.heap.size]? = some (.cells #[.string pk, .bool po, .bool pb, .slice S9 pl.length d9, .int .i64 pn, .slice T9 qy.length f9] 31 (0, 0) : Obj) from row_on b RQ.out)
            have RR := hide (show W10.heap[W3.heap.size + 1]? = some (.cells #[.int .i64 0, .int .i64 GL, .string ⟨#[]⟩, .int .i64 0, .int .i64 0] 33 (0, 0) : Obj) from row_on b RR.out)
            have RU := hide (show W10.heap[W7.heap.size]? = some (.cells #[.string pk, .bool po, .bool pb, .slice S8 pl.length d8, .int .i64 pn, .slice T8 py.length f8] 31 (0, 0) : Obj) from row_on b RU.out)
            have OS := hide (show RdL W10 2 cellEn (.slice S pl.length d) pl from RdL.below OS.out b (Nat.le_refl _))
            have OT := hide (show RdL W10 2 layerEn (.slice T py.length f) py from RdL.below OT.out b (Nat.le_refl _))
            have OQ := hide (show RdL W10 2 cellEn (.slice S9 pl.length d9) pl from RdL.below OQ.out b (Nat.le_refl _))
            have OV := hide (show RdL W10 2 layerEn (.slice T9 qy.length f9) qy from RdL.below OV.out b (Nat.le_refl _))
            have OU := hide (show RdL W10 2 cellEn (.slice S8 pl.length d8) pl from RdL.below OU.out b (Nat.le_refl _))
            have OX := hide (show RdL W10 2 layerEn (.slice T8 py.length f8) py from RdL.below OX.out b (Nat.le_refl _))
            have BW := below_then BW b
            rw [HB.out]
            obtain ⟨_, _, _, _, _, _, _⟩ := six_cells RP.out
            obtain ⟨_, _, _, _, _, _, _⟩ := six_cells RQ.out
            obtain ⟨_, _, _, _, _, _⟩ := five_cells RR.out
            obtain ⟨_, _, _, _, _, _, _⟩ := six_cells RU.out
            go_wp2_with fail
            refine (iSamePart_c (⟨⟨pk, po, pb, pl, pn⟩, py⟩ : Pu.PartD) (⟨⟨pk, po, pb, pl, pn⟩, py⟩ : Pu.PartD) _ _ _ _ _ OU.out OX.out OS.out OT.out).mono ?_; rintro e W11 ⟨rfl, b⟩
            have RP := hide (show W11.heap[W1.heap.size]? = some (.cells #[.string pk, .bool po, .bool pb, .slice S pl.length d, .int .i64 pn, .slice T py.length f] 31 (0, 0) : Obj) from row_on b RP.out)
            have RQ := hide (show W11.heap[W3.heap.size]? = some (.cells #[.string pk, .bool po, .bool pb, .slice S9 pl.length d9, .int .i64 pn, .slice T9 qy.length f9] 31 (0, 0) : Obj) from row_on b RQ.out)
            have RR := hide (show W11.heap[W3.heap.size + 1]? = some (.cells #[.int .i64 0, .int .i64 GL, .string ⟨#[]⟩, .int .i64 0, .int .i64 0] 33 (0, 0) : Obj) from row_on b RR.out)
            have RU := hide (show W11.heap[W7.heap.size]? = some (.cells #[.string pk, .bool po, .bool pb, .slice S8 pl.length d8, .int .i64 pn, .slice T8 py.length f8] 31 (0, 0) : Obj) from row_on b RU.out)
            have OS := hide (show RdL W11 2 cellEn (.slice S pl.length d) pl from RdL.below OS.out b (Nat.le_refl _))
            have OT := hide (show RdL W11 2 layerEn (.slice T py.length f) py from RdL.below OT.out b (Nat.le_refl _))
            have OQ := hide (show RdL W11 2 cellEn (.slice S9 pl.length d9) pl from RdL.below OQ.out b (Nat.le_refl _))
            have OV := hide (show RdL W11 2 layerEn (.slice T9 qy.length f9) qy from RdL.below OV.out b (Nat.le_refl _))
            have OU := hide (show RdL W11 2 cellEn (.slice S8 pl.length d8) pl from RdL.below OU.out b (Nat.le_refl _))
            have OX := hide (show RdL W11 2 layerEn (.slice T8 py.length f8) py from RdL.below OX.out b (Nat.le_refl _))
            have BW := below_then BW b
            rw [Pu.samePart_refl]
            obtain ⟨_, _, _, _, _, _, _⟩ := six_cells RP.out
            obtain ⟨_, _, _, _, _, _, _⟩ := six_cells RQ.out
            obtain ⟨_, _, _, _, _, _⟩ := five_cells RR.out
            obtain ⟨_, _, _, _, _, _, _⟩ := six_cells RU.out
            go_wp2
            go_ret
            exact ⟨rfl, BW⟩
        · skip
          obtain ⟨NL, hNL⟩ : ∃ NL, Hid (Pu.layN nm.toList = NL) := ⟨_, rfl⟩
          obtain ⟨GL, hGL⟩ : ∃ GL, Hid (Pu.layG nm.toList = GL) := ⟨_, rfl⟩
          obtain ⟨F, hF⟩ : ∃ F, Hid (Pu.faceAt (⟨⟨pk, po, pb, pl, pn⟩, py⟩ : Pu.PartD) py.length = F) := ⟨_, rfl⟩
          obtain ⟨q, hq9⟩ : ∃ q, Hid (Pu.offersB F NL = q) := ⟨_, rfl⟩
          have hL := Pu.wrapR_full (p := (⟨⟨pk, po, pb, pl, pn⟩, py⟩ : Pu.PartD)) (n := nm) hpp.out hok.out h3
          obtain ⟨hr, hq⟩ := hL
          have HQ := hide hq
          have HR := hide hr
          clear hq hr
          refine (iWrap_c (⟨⟨pk, po, pb, pl, pn⟩, py⟩ : Pu.PartD) nm _ _ _ HWF.out ⟨OS.out, HWC.out⟩ OT.out hpl hpy).mono ?_; rintro e W3 ⟨⟨s9, t9, rfl, os, ot, _⟩, b⟩
          rw [HQ.out] at os ot ⊢
          rw [HR.out]
          dsimp only at os ot
          obtain ⟨S9, d9, rfl⟩ := os.shape
          obtain ⟨T9, f9, rfl⟩ := ot.shape
          unfold partV replyV
          dsimp only
          have RP := hide (show W3.heap[W1.heap.size]? = some (.cells #[.string pk, .bool po, .bool pb, .slice S pl.length d, .int .i64 pn, .slice T py.length f] 31 (0, 0) : Obj) from row_on b RP.out)
          have OS := hide (show RdL W3 2 cellEn (.slice S pl.length d) pl from RdL.below OS.out b (Nat.le_refl _))
          have OT := hide (show RdL W3 2 layerEn (.slice T py.length f) py from RdL.below OT.out b (Nat.le_refl _))
          have BW := below_then BW b
          have OQ := hide (show RdL W3 2 cellEn (.slice S9 pl.length d9) pl from os.rd (fun _ => rfl))
          have OV := hide (show RdL W3 2 layerEn (.slice T9 py.length f9) py from ot.rd (fun _ => rfl))
          clear os ot
          obtain ⟨W4, hW4⟩ : ∃ W, Hid ((W3.alloc (.cells #[.string pk, .bool po, .bool pb, .slice S9 pl.length d9, .int .i64 pn, .slice T9 py.length f9] 31 : Obj)).alloc (.cells #[.int .i64 5, .int .i64 0, .string ⟨#[]⟩, .int .i64 0, .int .i64 0] 33 : Obj) = W) := ⟨_, rfl⟩
          have b : Below W3.heap.size W3 W4 := by rw [← hW4.out]; exact below_alloc (below_alloc (Below.refl _ _) _) _
          have RP := hide (show W4.heap[W1.heap.size]? = some (.cells #[.string pk, .bool po, .bool pb, .slice S pl.length d, .int .i64 pn, .slice T py.length f] 31 (0, 0) : Obj) from row_on b RP.out)
          have OS := hide (show RdL W4 2 cellEn (.slice S pl.length d) pl from RdL.below OS.out b (Nat.le_refl _))
          have OT := hide (show RdL W4 2 layerEn (.slice T py.length f) py from RdL.below OT.out b (Nat.le_refl _))
          have OQ := hide (show RdL W4 2 cellEn (.slice S9 pl.length d9) pl from RdL.below OQ.out b (Nat.le_refl _))
          have OV := hide (show RdL W4 2 layerEn (.slice T9 py.length f9) py from RdL.below OV.out b (Nat.le_refl _))
          have BW := below_then BW b
          have RQ := hide (show W4.heap[W3.heap.size]? = some (.cells #[.string pk, .bool po, .bool pb, .slice S9 pl.length d9, .int .i64 pn, .slice T9 py.length f9] 31 (0, 0) : Obj) by rw [← hW4.out]; exact heap_old (by simp) (heap_new rfl))
          have RR := hide (show W4.heap[W3.heap.size + 1]? = some (.cells #[.int .i64 5, .int .i64 0, .string ⟨#[]⟩, .int .i64 0, .int .i64 0] 33 (0, 0) : Obj) by rw [← hW4.out]; exact heap_new (by simp))
          have EP := hide (show ((W3.alloc (.cells #[.string pk, .bool po, .bool pb, .slice S9 pl.length d9, .int .i64 pn, .slice T9 py.length f9] 31 : Obj)).alloc (.cells #[.int .i64 5, .int .i64 0, .string ⟨#[]⟩, .int .i64 0, .int .i64 0] 33 : Obj)).heap[W1.heap.size]? = some (.cells #[.string pk, .bool po, .bool pb, .slice S pl.length d, .int .i64 pn, .slice T py.length f] 31 (0, 0) : Obj) by rw [hW4.out]; exact RP.out)
          have EQ := hide (show ((W3.alloc (.cells #[.string pk, .bool po, .bool pb, .slice S9 pl.length d9, .int .i64 pn, .slice T9 py.length f9] 31 : Obj)).alloc (.cells #[.int .i64 5, .int .i64 0, .string ⟨#[]⟩, .int .i64 0, .int .i64 0] 33 : Obj)).heap[W3.heap.size]? = some (.cells #[.string pk, .bool po, .bool pb, .slice S9 pl.length d9, .int .i64 pn, .slice T9 py.length f9] 31 (0, 0) : Obj) by rw [hW4.out]; exact RQ.out)
          have ER := hide (show ((W3.alloc (.cells #[.string pk, .bool po, .bool pb, .slice S9 pl.length d9, .int .i64 pn, .slice T9 py.length f9] 31 : Obj)).alloc (.cells #[.int .i64 5, .int .i64 0, .string ⟨#[]⟩, .int .i64 0, .int .i64 0] 33 : Obj)).heap[W3.heap.size + 1]? = some (.cells #[.int .i64 5, .int .i64 0, .string ⟨#[]⟩, .int .i64 0, .int .i64 0] 33 (0, 0) : Obj) by rw [hW4.out]; exact RR.out)
          obtain ⟨_, _, _, _, _, _, _⟩ := six_cells EP.out
          obtain ⟨_, _, _, _, _, _, _⟩ := six_cells EQ.out
          obtain ⟨_, _, _, _, _, _⟩ := five_cells ER.out
          have h3b : ((py.length : Int) == 3) = true := by simp; omega
          obtain ⟨_, _, _, _, _, _, _⟩ := six_cells RP.out
          obtain ⟨_, _, _, _, _, _, _⟩ := six_cells RQ.out
          obtain ⟨_, _, _, _, _, _⟩ := five_cells RR.out
          go_wp2_with fail
          rw [hW4.out]
          refine (iLayerNeeds_c nm _).mono ?_; rintro e w' ⟨rfl, rfl⟩
          rw [hok.out, hNL.out]
          obtain ⟨_, _, _, _, _, _, _⟩ := six_cells RP.out
          obtain ⟨_, _, _, _, _, _, _⟩ := six_cells RQ.out
          obtain ⟨_, _, _, _, _, _⟩ := five_cells RR.out
          go_wp2_with fail
          refine (iLayerGives_c nm _).mono ?_; rintro e w' ⟨rfl, rfl⟩
          rw [hok.out, hGL.out]
          obtain ⟨_, _, _, _, _, _, _⟩ := six_cells RP.out
          obtain ⟨_, _, _, _, _, _, _⟩ := six_cells RQ.out
          obtain ⟨_, _, _, _, _, _⟩ := five_cells RR.out
          go_wp2_with fail
          refine (iIsPart_c (⟨⟨pk, po, pb, pl, pn⟩, py⟩ : Pu.PartD) _ _ _ HWF.out ⟨OS.out, HWC.out⟩ OT.out).mono ?_; rintro e W5 ⟨rfl, b⟩
          have RP := hide (show W5.heap[W1.heap.size]? = some (.cells #[.string pk, .bool po, .bool pb, .slice S pl.length d, .int .i64 pn, .slice T py.length f] 31 (0, 0) : Obj) from row_on b RP.out)
          have RQ := hide (show W5.heap[W3.heap.size]? = some (.cells #[.string pk, .bool po, .bool pb, .slice S9 pl.length d9, .int .i64 pn, .slice T9 py.length f9] 31 (0, 0) : Obj) from row_on b RQ.out)
          have RR := hide (show W5.heap[W3.heap.size + 1]? = some (.cells #[.int .i64 5, .int .i64 0, .string ⟨#[]⟩, .int .i64 0, .int .i64 0] 33 (0, 0) : Obj) from row_on b RR.out)
          have OS := hide (show RdL W5 2 cellEn (.slice S pl.length d) pl from RdL.below OS.out b (Nat.le_refl _))
          have OT := hide (show RdL W5 2 layerEn (.slice T py.length f) py from RdL.below OT.out b (Nat.le_refl _))
          have OQ := hide (show RdL W5 2 cellEn (.slice S9 pl.length d9) pl from RdL.below OQ.out b (Nat.le_refl _))
          have OV := hide (show RdL W5 2 layerEn (.slice T9 py.length f9) py from RdL.below OV.out b (Nat.le_refl _))
          have BW := below_then BW b
          rw [hpp.out]
          obtain ⟨_, _, _, _, _, _, _⟩ := six_cells RP.out
          obtain ⟨_, _, _, _, _, _, _⟩ := six_cells RQ.out
          obtain ⟨_, _, _, _, _, _⟩ := five_cells RR.out
          go_wp2_with fail
          refine (iFaceOf_c (⟨⟨pk, po, pb, pl, pn⟩, py⟩ : Pu.PartD) _ _ _ OT.out).mono ?_; rintro e W6 ⟨rfl, b⟩
          have RP := hide (show W6.heap[W1.heap.size]? = some (.cells #[.string pk, .bool po, .bool pb, .slice S pl.length d, .int .i64 pn, .slice T py.length f] 31 (0, 0) : Obj) from row_on b RP.out)
          have RQ := hide (show W6.heap[W3.heap.size]? = some (.cells #[.string pk, .bool po, .bool pb, .slice S9 pl.length d9, .int .i64 pn, .slice T9 py.length f9] 31 (0, 0) : Obj) from row_on b RQ.out)
          have RR := hide (show W6.heap[W3.heap.size + 1]? = some (.cells #[.int .i64 5, .int .i64 0, .string ⟨#[]⟩, .int .i64 0, .int .i64 0] 33 (0, 0) : Obj) from row_on b RR.out)
          have OS := hide (show RdL W6 2 cellEn (.slice S pl.length d) pl from RdL.below OS.out b (Nat.le_refl _))
          have OT := hide (show RdL W6 2 layerEn (.slice T py.length f) py from RdL.below OT.out b (Nat.le_refl _))
          have OQ := hide (show RdL W6 2 cellEn (.slice S9 pl.length d9) pl from RdL.below OQ.out b (Nat.le_refl _))
          have OV := hide (show RdL W6 2 layerEn (.slice T9 py.length f9) py from RdL.below OV.out b (Nat.le_refl _))
          have BW := below_then BW b
          rw [show Pu.faceAt (⟨⟨pk, po, pb, pl, pn⟩, py⟩ : Pu.PartD) (⟨⟨pk, po, pb, pl, pn⟩, py⟩ : Pu.PartD).layers.length = F from hF.out]
          obtain ⟨_, _, _, _, _, _, _⟩ := six_cells RP.out
          obtain ⟨_, _, _, _, _, _, _⟩ := six_cells RQ.out
          obtain ⟨_, _, _, _, _, _⟩ := five_cells RR.out
          go_wp2_with fail
          refine (iOffers_c F NL _).mono ?_; rintro e w' ⟨rfl, rfl⟩
          rw [hq9.out]
          obtain ⟨_, _, _, _, _, _, _⟩ := six_cells RP.out
          obtain ⟨_, _, _, _, _, _, _⟩ := six_cells RQ.out
          obtain ⟨_, _, _, _, _, _⟩ := five_cells RR.out
          go_wp2_with fail
          refine (iSamePart_c (⟨⟨pk, po, pb, pl, pn⟩, py⟩ : Pu.PartD) (⟨⟨pk, po, pb, pl, pn⟩, py⟩ : Pu.PartD) _ _ _ _ _ OS.out OT.out OQ.out OV.out).mono ?_; rintro e W7 ⟨rfl, b⟩
          have RP := hide (show W7.heap[W1.heap.size]? = some (.cells #[.string pk, .bool po, .bool pb, .slice S pl.length d, .int .i64 pn, .slice T py.length f] 31 (0, 0) : Obj) from row_on b RP.out)
          have RQ := hide (show W7.heap[W3.heap.size]? = some (.cells #[.string pk, .bool po, .bool pb, .slice S9 pl.length d9, .int .i64 pn, .slice T9 py.length f9] 31 (0, 0) : Obj) from row_on b RQ.out)
          have RR := hide (show W7.heap[W3.heap.size + 1]? = some (.cells #[.int .i64 5, .int .i64 0, .string ⟨#[]⟩, .int .i64 0, .int .i64 0] 33 (0, 0) : Obj) from row_on b RR.out)
          have OS := hide (show RdL W7 2 cellEn (.slice S pl.length d) pl from RdL.below OS.out b (Nat.le_refl _))
          have OT := hide (show RdL W7 2 layerEn (.slice T py.length f) py from RdL.below OT.out b (Nat.le_refl _))
          have OQ := hide (show RdL W7 2 cellEn (.slice S9 pl.length d9) pl from RdL.below OQ.out b (Nat.le_refl _))
          have OV := hide (show RdL W7 2 layerEn (.slice T9 py.length f9) py from RdL.below OV.out b (Nat.le_refl _))
          have BW := below_then BW b
          rw [Pu.samePart_refl]
          obtain ⟨_, _, _, _, _, _, _⟩ := six_cells RP.out
          obtain ⟨_, _, _, _, _, _, _⟩ := six_cells RQ.out
          obtain ⟨_, _, _, _, _, _⟩ := five_cells RR.out
          go_wp2
          go_ret
          exact ⟨rfl, BW⟩
  · go_enter Try.func4, Try.ntmps4
    go_wp2_with fail
    refine (big_c _ _ _ H0.out).mono ?_; rintro e w' ⟨rfl, rfl⟩
    rw [hbig]
    go_wp2
    go_ret
    exact ⟨rfl, Below.refl _ _⟩

set_option maxRecDepth 100000 in
theorem lifted (os : Os) (started : os.Started) (H : Type) (enc : TypeId × Value → H) :
    ReturnsInHanded {} Try.checked os 4 .any (Rows.fnWrappedSpec.pre6 enc Try.prog Try.f4 Rows.fnWrappedRow.domain false) (Rows.fnWrappedSpec.post enc Try.prog Try.f4 false true false false) := by
  refine returnsInHanded_of_change (C := Try.checked) own started (by kernel_rfl) Try.func4
    (ChangeSpec.witness6 (enc := enc) (C := Try.checked) false ⟨#[], #[.slice none 0 0], []⟩ 8 (by kernel_rfl) (by kernel_rfl) (by kernel_rfl) (by kernel_rfl)) ?_
  intro W base args ds gs before hval0 hW _ _
  have hval : ∀ (j : Nat) t v, Try.f4.params[j]? = some t → args[j]? = some v → Value.okWide Try.prog W .any base t v := hval0
  have hW' := hW
  obtain ⟨p, q, hA0, hV, rfl, hfz, hnd⟩ := hW
  have hA : DataW.TrodAll enc Try.prog W 0 (fun _ => true) true Try.f4.params.toList args.toList ds p := hA0
  rw [Try.params4] at hA hval
  obtain ⟨v0, vs0, d0, ds0, p0, q0, hargs, rfl, rfl, h0, r0⟩ := trodAll_cons hA
  obtain ⟨rfl, rfl, rfl⟩ := trodAll_nil r0
  obtain rfl : args = #[v0] := by cases args; simp_all
  obtain ⟨rfl, rfl⟩ := trodVars_none hV
  obtain ⟨a0, hv0⟩ := open_bytes (hval 0 22 v0 rfl rfl) h0
  refine (walk W v0 a0 hv0).mono fun e W' ⟨he, hg⟩ => ?_
  subst he
  exact ⟨_, rfl, law_post (tb := 4) (by kernel_rfl) (by kernel_rfl) hW' hg rfl Try.underlying4 rfl rfl rfl rfl⟩

theorem over : Rows.fnWrappedRow.holds Try.pinned (OpenSpec.ofChange Rows.fnWrappedSpec) :=
  OpenClaim.holds_of_wide 4 Try.f4 rfl rfl rfl rfl rfl rfl rfl ⟨rfl, rfl, rfl, rfl, rfl⟩ rfl rfl rfl rfl rfl (by kernel_rfl) Try.func4 (by kernel_rfl)
    (of_decide_eq_true (by kernel_rfl)) (by unfold Func.isWrapper; first | (rw [if_pos (by decide +kernel)]; kernel_rfl) | (rw [if_neg (by decide +kernel)]; exact ⟨rfl, rfl⟩))
    (fun os started H enc _ => lifted os started H enc)

/-- The statement. -/
theorem proved : Rows.FnWrappedSaid :=
  over
#print axioms proved
end Go.Proofs.Ytnabpefjcgehiaa.fnWrapped
