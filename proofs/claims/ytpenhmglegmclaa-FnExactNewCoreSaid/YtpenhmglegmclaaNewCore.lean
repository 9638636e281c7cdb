/- Contracts: NewCore, NewPart. -/
import Derived.Test.YtpenhmglegmclaaCore
namespace Go.Proofs.Ytpenhmglegmclaa
open Go.ChangeShapes Go.WideShapes Go.ChangeAt Go.RowKit
def Pu.newCore (k : ByteArray) : Pu.CoreD := if Pu.kindOk k.toList then ⟨k, false, false, [], 0⟩ else ⟨ByteArray.empty, false, false, [], 0⟩
theorem Pu.newCore_cells (k : ByteArray) : (Pu.newCore k).cells = [] := by unfold Pu.newCore; split <;> rfl
theorem iNewCore_c (k : ByteArray) (w : World) :
    Calls Try.prog 47 #[.string k] w fun e w' => e = .returned (.tuple #[coreV (Pu.newCore k) (.slice none 0 0), .bool (Pu.kindOk k.toList)]) ∧ Below w.heap.size w w' := by
  rcases hk : Pu.kindOk k.toList
  · have HE : Hid (Pu.newCore k = ⟨ByteArray.empty, false, false, [], 0⟩) := by rw [Hid, Pu.newCore, hk]; rfl
    rw [HE.out]
    have HK := hide hk
    clear hk
    go_enter Try.func47, Try.ntmps47
    go_wp2_with fail
    refine (iKindFace_c _ _).mono ?_; rintro e w1 ⟨rfl, hb1⟩
    have hb1 : Below (w.alloc (.cells #[.string ⟨#[]⟩, .bool false, .bool false, .slice none 0 0, .int .i64 0] 49)).heap.size (w.alloc (.cells #[.string ⟨#[]⟩, .bool false, .bool false, .slice none 0 0, .int .i64 0] 49)) w1 := by first | exact hb1 | (rw [← hb1]; exact Below.refl _ _)
    rw [HK.out]
    obtain ⟨c0, c1, c2, c3, c4, _⟩ := five_cells ((hb1.block w.heap.size (by simp)).trans (heap_new rfl))
    have HB : Below w.heap.size w w1 := (below_alloc (Below.refl _ _) _).trans (hb1.mono (by simp))
    go_wp2_with fail
    have HB2 := ((((HB.setCell (p := ⟨w.heap.size, 0, none⟩) (by simp) (Value.string ⟨#[]⟩)).setCell (p := ⟨w.heap.size, 1, none⟩) (by simp) (Value.bool false)).setCell (p := ⟨w.heap.size, 2, none⟩) (by simp) (Value.bool false)).setCell (p := ⟨w.heap.size, 3, none⟩) (by simp) (Value.slice none 0 0)).setCell (p := ⟨w.heap.size, 4, none⟩) (by simp) (Value.int .i64 0)
    exact bodyPost_ret (v := .tuple #[.agg #[.string ⟨#[]⟩, .bool false, .bool false, .slice none 0 0, .int .i64 0], .bool false]) (by simp [results, Try.results47, go_sem, c0, c1, c2, c3, c4]) rfl ⟨rfl, HB2⟩
  · have HE : Hid (Pu.newCore k = ⟨k, false, false, [], 0⟩) := by rw [Hid, Pu.newCore, hk]; rfl
    rw [HE.out]
    have HK := hide hk
    clear hk
    go_enter Try.func47, Try.ntmps47
    go_wp2_with fail
    refine (iKindFace_c _ _).mono ?_; rintro e w1 ⟨rfl, hb1⟩
    have hb1 : Below (w.alloc (.cells #[.string ⟨#[]⟩, .bool false, .bool false, .slice none 0 0, .int .i64 0] 49)).heap.size (w.alloc (.cells #[.string ⟨#[]⟩, .bool false, .bool false, .slice none 0 0, .int .i64 0] 49)) w1 := by first | exact hb1 | (rw [← hb1]; exact Below.refl _ _)
    rw [HK.out]
    obtain ⟨c0, c1, c2, c3, c4, _⟩ := five_cells ((hb1.block w.heap.size (by simp)).trans (heap_new rfl))
    have HB : Below w.heap.size w w1 := (below_alloc (Below.refl _ _) _).trans (hb1.mono (by simp))
    go_wp2_with fail
    have HB2 := ((((HB.setCell (p := ⟨w.heap.size, 0, none⟩) (by simp) (Value.string k)).setCell (p := ⟨w.heap.size, 1, none⟩) (by simp) (Value.bool false)).setCell (p := ⟨w.heap.size, 2, none⟩) (by simp) (Value.bool false)).setCell (p := ⟨w.heap.size, 3, none⟩) (by simp) (Value.slice none 0 0)).setCell (p := ⟨w.heap.size, 4, none⟩) (by simp) (Value.int .i64 0)
    exact bodyPost_ret (v := .tuple #[.agg #[.string k, .bool false, .bool false, .slice none 0 0, .int .i64 0], .bool true]) (by simp [results, Try.results47, go_sem, c0, c1, c2, c3, c4]) rfl ⟨rfl, HB2⟩
theorem sNewCore_c (k : ByteArray) (w : World) :
    Calls Try.prog 46 #[.string k] w fun e w' => e = .returned (.tuple #[coreV (Pu.newCore k) (.slice none 0 0), .bool (Pu.kindOk k.toList)]) ∧ Below w.heap.size w w' := by
  rcases hk : Pu.kindOk k.toList
  · have HE : Hid (Pu.newCore k = ⟨ByteArray.empty, false, false, [], 0⟩) := by rw [Hid, Pu.newCore, hk]; rfl
    rw [HE.out]
    have HK := hide hk
    clear hk
    go_enter Try.func46, Try.ntmps46
    go_wp2_with fail
    refine (sKindFace_c _ _).mono ?_; rintro e w1 ⟨rfl, hb1⟩
    have hb1 : Below (w.alloc (.cells #[.string ⟨#[]⟩, .bool false, .bool false, .slice none 0 0, .int .i64 0] 49)).heap.size (w.alloc (.cells #[.string ⟨#[]⟩, .bool false, .bool false, .slice none 0 0, .int .i64 0] 49)) w1 := by first | exact hb1 | (rw [← hb1]; exact Below.refl _ _)
    rw [HK.out]
    obtain ⟨c0, c1, c2, c3, c4, _⟩ := five_cells ((hb1.block w.heap.size (by simp)).trans (heap_new rfl))
    have HB : Below w.heap.size w w1 := (below_alloc (Below.refl _ _) _).trans (hb1.mono (by simp))
    go_wp2_with fail
    have HB2 := ((((HB.setCell (p := ⟨w.heap.size, 0, none⟩) (by simp) (Value.string ⟨#[]⟩)).setCell (p := ⟨w.heap.size, 1, none⟩) (by simp) (Value.bool false)).setCell (p := ⟨w.heap.size, 2, none⟩) (by simp) (Value.bool false)).setCell (p := ⟨w.heap.size, 3, none⟩) (by simp) (Value.slice none 0 0)).setCell (p := ⟨w.heap.size, 4, none⟩) (by simp) (Value.int .i64 0)
    exact bodyPost_ret (v := .tuple #[.agg #[.string ⟨#[]⟩, .bool false, .bool false, .slice none 0 0, .int .i64 0], .bool false]) (by simp [results, Try.results46, go_sem, c0, c1, c2, c3, c4]) rfl ⟨rfl, HB2⟩
  · have HE : Hid (Pu.newCore k = ⟨k, false, false, [], 0⟩) := by rw [Hid, Pu.newCore, hk]; rfl
    rw [HE.out]
    have HK := hide hk
    clear hk
    go_enter Try.func46, Try.ntmps46
    go_wp2_with fail
    refine (sKindFace_c _ _).mono ?_; rintro e w1 ⟨rfl, hb1⟩
    have hb1 : Below (w.alloc (.cells #[.string ⟨#[]⟩, .bool false, .bool false, .slice none 0 0, .int .i64 0] 49)).heap.size (w.alloc (.cells #[.string ⟨#[]⟩, .bool false, .bool false, .slice none 0 0, .int .i64 0] 49)) w1 := by first | exact hb1 | (rw [← hb1]; exact Below.refl _ _)
    rw [HK.out]
    obtain ⟨c0, c1, c2, c3, c4, _⟩ := five_cells ((hb1.block w.heap.size (by simp)).trans (heap_new rfl))
    have HB : Below w.heap.size w w1 := (below_alloc (Below.refl _ _) _).trans (hb1.mono (by simp))
    go_wp2_with fail
    have HB2 := ((((HB.setCell (p := ⟨w.heap.size, 0, none⟩) (by simp) (Value.string k)).setCell (p := ⟨w.heap.size, 1, none⟩) (by simp) (Value.bool false)).setCell (p := ⟨w.heap.size, 2, none⟩) (by simp) (Value.bool false)).setCell (p := ⟨w.heap.size, 3, none⟩) (by simp) (Value.slice none 0 0)).setCell (p := ⟨w.heap.size, 4, none⟩) (by simp) (Value.int .i64 0)
    exact bodyPost_ret (v := .tuple #[.agg #[.string k, .bool false, .bool false, .slice none 0 0, .int .i64 0], .bool true]) (by simp [results, Try.results46, go_sem, c0, c1, c2, c3, c4]) rfl ⟨rfl, HB2⟩
end Go.Proofs.Ytpenhmglegmclaa
