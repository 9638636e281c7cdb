/- Contracts: RecipeFace. -/
import Derived.Test.YtnabpefjcgehiaaMakePart
namespace Go.Proofs.Ytnabpefjcgehiaa
open Go.ChangeShapes Go.WideShapes Go.ChangeAt Go.RowKit
set_option maxRecDepth 100000
def Pu.recF (l : List ByteArray) : Int := if (Pu.makeR l).code = 0 then (Pu.makeR l).value else 0
def Pu.recOk (l : List ByteArray) : Bool := decide ((Pu.makeR l).code = 0)
theorem iRecipeFace_c (v : Value) (l : List ByteArray) (w : World) (hv : RdStr w v l) (hz : ∀ y ∈ l, y.size ≤ maxLen) (hl : l.length ≤ 1048576) :
    Calls Try.prog 8 #[v] w fun e w' => e = .returned (.tuple #[.int .i64 (Pu.recF l), .bool (Pu.recOk l)]) ∧ Below w.heap.size w w' := by
  by_cases hc : (Pu.makeR l).code = 0
  · have HF : Hid (Pu.recF l = (Pu.makeR l).value) := by rw [Hid, Pu.recF, if_pos hc]
    have HK : Hid (Pu.recOk l = true) := decide_eq_true hc
    rw [HF.out, HK.out]
    go_enter Try.func8, Try.ntmps8
    go_wp2_with fail
    refine (iMakePart_c v l _ hv hz hl).mono ?_; rintro e w1 ⟨⟨s, t, rfl, o1, p1, n1⟩, b1⟩
    obtain ⟨A, k, rfl⟩ := o1.shape
    obtain ⟨B, j, rfl⟩ := p1.shape
    unfold partV replyV
    clear o1 p1 n1
    go_wp2_with fail
    go_ret2
    exact ⟨rfl, below_alloc (below_alloc b1 _) _⟩
  · have HF : Hid (Pu.recF l = 0) := by rw [Hid, Pu.recF, if_neg hc]
    have HK : Hid (Pu.recOk l = false) := decide_eq_false hc
    rw [HF.out, HK.out]
    go_enter Try.func8, Try.ntmps8
    go_wp2_with fail
    refine (iMakePart_c v l _ hv hz hl).mono ?_; rintro e w1 ⟨⟨s, t, rfl, o1, p1, n1⟩, b1⟩
    obtain ⟨A, k, rfl⟩ := o1.shape
    obtain ⟨B, j, rfl⟩ := p1.shape
    unfold partV replyV
    clear o1 p1 n1
    go_wp2_with fail
    go_ret2
    exact ⟨rfl, below_alloc (below_alloc b1 _) _⟩
theorem sRecipeFace_c (v : Value) (l : List ByteArray) (w : World) (hv : RdStr w v l) (hz : ∀ y ∈ l, y.size ≤ maxLen) (hl : l.length ≤ 1048576) :
    Calls Try.prog 37 #[v] w fun e w' => e = .returned (.tuple #[.int .i64 (Pu.recF l), .bool (Pu.recOk l)]) ∧ Below w.heap.size w w' := by
  by_cases hc : (Pu.makeR l).code = 0
  · have HF : Hid (Pu.recF l = (Pu.makeR l).value) := by rw [Hid, Pu.recF, if_pos hc]
    have HK : Hid (Pu.recOk l = true) := decide_eq_true hc
    rw [HF.out, HK.out]
    go_enter Try.func37, Try.ntmps37
    go_wp2_with fail
    refine (sMakePart_c v l _ hv hz hl).mono ?_; rintro e w1 ⟨⟨s, t, rfl, o1, p1, n1⟩, b1⟩
    obtain ⟨A, k, rfl⟩ := o1.shape
    obtain ⟨B, j, rfl⟩ := p1.shape
    unfold partV replyV
    clear o1 p1 n1
    go_wp2_with fail
    go_ret2
    exact ⟨rfl, below_alloc (below_alloc b1 _) _⟩
  · have HF : Hid (Pu.recF l = 0) := by rw [Hid, Pu.recF, if_neg hc]
    have HK : Hid (Pu.recOk l = false) := decide_eq_false hc
    rw [HF.out, HK.out]
    go_enter Try.func37, Try.ntmps37
    go_wp2_with fail
    refine (sMakePart_c v l _ hv hz hl).mono ?_; rintro e w1 ⟨⟨s, t, rfl, o1, p1, n1⟩, b1⟩
    obtain ⟨A, k, rfl⟩ := o1.shape
    obtain ⟨B, j, rfl⟩ := p1.shape
    unfold partV replyV
    clear o1 p1 n1
    go_wp2_with fail
    go_ret2
    exact ⟨rfl, below_alloc (below_alloc b1 _) _⟩
end Go.Proofs.Ytnabpefjcgehiaa
