/- Contracts: NewCore, NewPart. -/
import Derived.Test.YtplcdnahiimenaaCore
import Derived.Test.YtplcdnahiimenaaPart
namespace Go.Proofs.Ytplcdnahiimenaa
open Go.ChangeShapes Go.WideShapes Go.ChangeAt Go.RowKit
set_option maxRecDepth 100000
def Pu.newCore (k : ByteArray) : Pu.CoreD := if Pu.kindOk k.toList then ⟨k, false, false, [], 0⟩ else ⟨ByteArray.empty, false, false, [], 0⟩
theorem Pu.newCore_cells (k : ByteArray) : (Pu.newCore k).cells = [] := by unfold Pu.newCore; split <;> rfl
theorem iNewCore_c (k : ByteArray) (w : World) :
    Calls Try.prog 72 #[.string k] w fun e w' => e = .returned (.tuple #[coreV (Pu.newCore k) (.slice none 0 0), .bool (Pu.kindOk k.toList)]) ∧ Below w.heap.size w w' := by
  rcases hk : Pu.kindOk k.toList
  · have HE : Hid (Pu.newCore k = ⟨ByteArray.empty, false, false, [], 0⟩) := by rw [Hid, Pu.newCore, hk]; rfl
    rw [HE.out]
    have HK := hide hk
    clear hk
    go_enter Try.func72, Try.ntmps72
    go_wp2_with fail
    refine (iKindFace_c _ _).mono ?_; rintro e w1 ⟨rfl, hb1⟩
    have hb1 : Below (w.alloc (.cells #[.string ⟨#[]⟩, .bool false, .bool false, .slice none 0 0, .int .i64 0] 34)).heap.size (w.alloc (.cells #[.string ⟨#[]⟩, .bool false, .bool false, .slice none 0 0, .int .i64 0] 34)) w1 := by first | exact hb1 | (rw [← hb1]; exact Below.refl _ _)
    rw [HK.out]
    obtain ⟨c0, c1, c2, c3, c4, _⟩ := five_cells ((hb1.block w.heap.size (by simp)).trans (heap_new rfl))
    have HB : Below w.heap.size w w1 := (below_alloc (Below.refl _ _) _).trans (hb1.mono (by simp))
    go_wp2_with fail
    have HB2 := ((((HB.setCell (p := ⟨w.heap.size, 0, none⟩) (by simp) (Value.string ⟨#[]⟩)).setCell (p := ⟨w.heap.size, 1, none⟩) (by simp) (Value.bool false)).setCell (p := ⟨w.heap.size, 2, none⟩) (by simp) (Value.bool false)).setCell (p := ⟨w.heap.size, 3, none⟩) (by simp) (Value.slice none 0 0)).setCell (p := ⟨w.heap.size, 4, none⟩) (by simp) (Value.int .i64 0)
    exact bodyPost_ret (v := .tuple #[.agg #[.string ⟨#[]⟩, .bool false, .bool false, .slice none 0 0, .int .i64 0], .bool false]) (by simp [results, Try.results72, go_sem, c0, c1, c2, c3, c4]) rfl ⟨rfl, HB2⟩
  · have HE : Hid (Pu.newCore k = ⟨k, false, false, [], 0⟩) := by rw [Hid, Pu.newCore, hk]; rfl
    rw [HE.out]
    have HK := hide hk
    clear hk
    go_enter Try.func72, Try.ntmps72
    go_wp2_with fail
    refine (iKindFace_c _ _).mono ?_; rintro e w1 ⟨rfl, hb1⟩
    have hb1 : Below (w.alloc (.cells #[.string ⟨#[]⟩, .bool false, .bool false, .slice none 0 0, .int .i64 0] 34)).heap.size (w.alloc (.cells #[.string ⟨#[]⟩, .bool false, .bool false, .slice none 0 0, .int .i64 0] 34)) w1 := by first | exact hb1 | (rw [← hb1]; exact Below.refl _ _)
    rw [HK.out]
    obtain ⟨c0, c1, c2, c3, c4, _⟩ := five_cells ((hb1.block w.heap.size (by simp)).trans (heap_new rfl))
    have HB : Below w.heap.size w w1 := (below_alloc (Below.refl _ _) _).trans (hb1.mono (by simp))
    go_wp2_with fail
    have HB2 := ((((HB.setCell (p := ⟨w.heap.size, 0, none⟩) (by simp) (Value.string k)).setCell (p := ⟨w.heap.size, 1, none⟩) (by simp) (Value.bool false)).setCell (p := ⟨w.heap.size, 2, none⟩) (by simp) (Value.bool false)).setCell (p := ⟨w.heap.size, 3, none⟩) (by simp) (Value.slice none 0 0)).setCell (p := ⟨w.heap.size, 4, none⟩) (by simp) (Value.int .i64 0)
    exact bodyPost_ret (v := .tuple #[.agg #[.string k, .bool false, .bool false, .slice none 0 0, .int .i64 0], .bool true]) (by simp [results, Try.results72, go_sem, c0, c1, c2, c3, c4]) rfl ⟨rfl, HB2⟩
theorem sNewCore_c (k : ByteArray) (w : World) :
    Calls Try.prog 92 #[.string k] w fun e w' => e = .returned (.tuple #[coreV (Pu.newCore k) (.slice none 0 0), .bool (Pu.kindOk k.toList)]) ∧ Below w.heap.size w w' := by
  rcases hk : Pu.kindOk k.toList
  · have HE : Hid (Pu.newCore k = ⟨ByteArray.empty, false, false, [], 0⟩) := by rw [Hid, Pu.newCore, hk]; rfl
    rw [HE.out]
    have HK := hide hk
    clear hk
    go_enter Try.func92, Try.ntmps92
    go_wp2_with fail
    refine (sKindFace_c _ _).mono ?_; rintro e w1 ⟨rfl, hb1⟩
    have hb1 : Below (w.alloc (.cells #[.string ⟨#[]⟩, .bool false, .bool false, .slice none 0 0, .int .i64 0] 34)).heap.size (w.alloc (.cells #[.string ⟨#[]⟩, .bool false, .bool false, .slice none 0 0, .int .i64 0] 34)) w1 := by first | exact hb1 | (rw [← hb1]; exact Below.refl _ _)
    rw [HK.out]
    obtain ⟨c0, c1, c2, c3, c4, _⟩ := five_cells ((hb1.block w.heap.size (by simp)).trans (heap_new rfl))
    have HB : Below w.heap.size w w1 := (below_alloc (Below.refl _ _) _).trans (hb1.mono (by simp))
    go_wp2_with fail
    have HB2 := ((((HB.setCell (p := ⟨w.heap.size, 0, none⟩) (by simp) (Value.string ⟨#[]⟩)).setCell (p := ⟨w.heap.size, 1, none⟩) (by simp) (Value.bool false)).setCell (p := ⟨w.heap.size, 2, none⟩) (by simp) (Value.bool false)).setCell (p := ⟨w.heap.size, 3, none⟩) (by simp) (Value.slice none 0 0)).setCell (p := ⟨w.heap.size, 4, none⟩) (by simp) (Value.int .i64 0)
    exact bodyPost_ret (v := .tuple #[.agg #[.string ⟨#[]⟩, .bool false, .bool false, .slice none 0 0, .int .i64 0], .bool false]) (by simp [results, Try.results92, go_sem, c0, c1, c2, c3, c4]) rfl ⟨rfl, HB2⟩
  · have HE : Hid (Pu.newCore k = ⟨k, false, false, [], 0⟩) := by rw [Hid, Pu.newCore, hk]; rfl
    rw [HE.out]
    have HK := hide hk
    clear hk
    go_enter Try.func92, Try.ntmps92
    go_wp2_with fail
    refine (sKindFace_c _ _).mono ?_; rintro e w1 ⟨rfl, hb1⟩
    have hb1 : Below (w.alloc (.cells #[.string ⟨#[]⟩, .bool false, .bool false, .slice none 0 0, .int .i64 0] 34)).heap.size (w.alloc (.cells #[.string ⟨#[]⟩, .bool false, .bool false, .slice none 0 0, .int .i64 0] 34)) w1 := by first | exact hb1 | (rw [← hb1]; exact Below.refl _ _)
    rw [HK.out]
    obtain ⟨c0, c1, c2, c3, c4, _⟩ := five_cells ((hb1.block w.heap.size (by simp)).trans (heap_new rfl))
    have HB : Below w.heap.size w w1 := (below_alloc (Below.refl _ _) _).trans (hb1.mono (by simp))
    go_wp2_with fail
    have HB2 := ((((HB.setCell (p := ⟨w.heap.size, 0, none⟩) (by simp) (Value.string k)).setCell (p := ⟨w.heap.size, 1, none⟩) (by simp) (Value.bool false)).setCell (p := ⟨w.heap.size, 2, none⟩) (by simp) (Value.bool false)).setCell (p := ⟨w.heap.size, 3, none⟩) (by simp) (Value.slice none 0 0)).setCell (p := ⟨w.heap.size, 4, none⟩) (by simp) (Value.int .i64 0)
    exact bodyPost_ret (v := .tuple #[.agg #[.string k, .bool false, .bool false, .slice none 0 0, .int .i64 0], .bool true]) (by simp [results, Try.results92, go_sem, c0, c1, c2, c3, c4]) rfl ⟨rfl, HB2⟩
def Pu.newPart (k : ByteArray) : Pu.PartD := ⟨Pu.newCore k, []⟩
set_option maxHeartbeats 1000000 in
theorem iNewPart_c (k : ByteArray) (w : World) :
    Calls Try.prog 41 #[.string k] w fun e w' => e = .returned (.tuple #[partV (Pu.newPart k) (.slice none 0 0) (.slice none 0 0), .bool (Pu.kindOk k.toList)]) ∧ Below w.heap.size w w' := by
  go_enter Try.func41, Try.ntmps41
  go_wp2_with fail
  refine (iNewCore_c _ _).mono ?_; rintro e w1 ⟨rfl, hb1⟩
  unfold coreV
  obtain ⟨c0, c1, c2, c3, c4, c5, cf⟩ := six_cells ((hb1.block w.heap.size (by simp)).trans (heap_new rfl))
  have hs1 : w.heap.size < w1.heap.size := by have := hb1.size; simp at this; omega
  have HB : Below w.heap.size w w1 := (below_alloc (Below.refl _ _) _).trans (hb1.mono (by simp))
  clear hb1
  go_wp2_with fail
  have HB2 := below_alloc ((((((HB.setCell (p := ⟨w.heap.size, 0, none⟩) (by simp) (Value.string (Pu.newCore k).kind)).setCell (p := ⟨w.heap.size, 1, none⟩) (by simp) (Value.bool (Pu.newCore k).on)).setCell (p := ⟨w.heap.size, 2, none⟩) (by simp) (Value.bool (Pu.newCore k).broken)).setCell (p := ⟨w.heap.size, 3, none⟩) (by simp) (Value.slice none 0 0)).setCell (p := ⟨w.heap.size, 4, none⟩) (by simp) (Value.int .i64 (Pu.newCore k).count)).setCell (p := ⟨w.heap.size, 5, none⟩) (by simp) (Value.slice none 0 0)) (.cells #[.string (Pu.newCore k).kind, .bool (Pu.newCore k).on, .bool (Pu.newCore k).broken, .slice none 0 0, .int .i64 (Pu.newCore k).count] 34)
  exact bodyPost_ret (v := .tuple #[.agg #[.string (Pu.newCore k).kind, .bool (Pu.newCore k).on, .bool (Pu.newCore k).broken, .slice none 0 0, .int .i64 (Pu.newCore k).count, .slice none 0 0], .bool (Pu.kindOk k.toList)]) (by simp [results, Try.results41, go_sem, hs1, c0, c1, c2, c3, c4, c5]) rfl ⟨rfl, HB2⟩
set_option maxHeartbeats 1000000 in
theorem sNewPart_c (k : ByteArray) (w : World) :
    Calls Try.prog 66 #[.string k] w fun e w' => e = .returned (.tuple #[partV (Pu.newPart k) (.slice none 0 0) (.slice none 0 0), .bool (Pu.kindOk k.toList)]) ∧ Below w.heap.size w w' := by
  go_enter Try.func66, Try.ntmps66
  go_wp2_with fail
  refine (sNewCore_c _ _).mono ?_; rintro e w1 ⟨rfl, hb1⟩
  unfold coreV
  obtain ⟨c0, c1, c2, c3, c4, c5, cf⟩ := six_cells ((hb1.block w.heap.size (by simp)).trans (heap_new rfl))
  have hs1 : w.heap.size < w1.heap.size := by have := hb1.size; simp at this; omega
  have HB : Below w.heap.size w w1 := (below_alloc (Below.refl _ _) _).trans (hb1.mono (by simp))
  clear hb1
  go_wp2_with fail
  have HB2 := below_alloc ((((((HB.setCell (p := ⟨w.heap.size, 0, none⟩) (by simp) (Value.string (Pu.newCore k).kind)).setCell (p := ⟨w.heap.size, 1, none⟩) (by simp) (Value.bool (Pu.newCore k).on)).setCell (p := ⟨w.heap.size, 2, none⟩) (by simp) (Value.bool (Pu.newCore k).broken)).setCell (p := ⟨w.heap.size, 3, none⟩) (by simp) (Value.slice none 0 0)).setCell (p := ⟨w.heap.size, 4, none⟩) (by simp) (Value.int .i64 (Pu.newCore k).count)).setCell (p := ⟨w.heap.size, 5, none⟩) (by simp) (Value.slice none 0 0)) (.cells #[.string (Pu.newCore k).kind, .bool (Pu.newCore k).on, .bool (Pu.newCore k).broken, .slice none 0 0, .int .i64 (Pu.newCore k).count] 34)
  exact bodyPost_ret (v := .tuple #[.agg #[.string (Pu.newCore k).kind, .bool (Pu.newCore k).on, .bool (Pu.newCore k).broken, .slice none 0 0, .int .i64 (Pu.newCore k).count, .slice none 0 0], .bool (Pu.kindOk k.toList)]) (by simp [results, Try.results66, go_sem, hs1, c0, c1, c2, c3, c4, c5]) rfl ⟨rfl, HB2⟩
end Go.Proofs.Ytplcdnahiimenaa
