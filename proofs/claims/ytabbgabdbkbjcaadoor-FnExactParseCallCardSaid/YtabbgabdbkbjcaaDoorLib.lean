/- Small lemmas that every walk of this family uses. -/
import Derived.Test.YtabbgabdbkbjcaaDoorRows
import Derived.Test.YtabbgabdbkbjcaaDoorPure
import Derived.WalkKit
import Derived.ProofKit
import Derived.OpenShut
import Derived.Outline
import Derived.WalkLawsBesides
import Derived.WalkSpells
import Derived.Lib.Hide
import Derived.Lib.Strings
import Derived.Deep.Draws
import Derived.Carry
namespace Go.Proofs.YtabbgabdbkbjcaaDoor
open Go.ChangeShapes Go.WideShapes Go.ChangeAt Go.RowKit
set_option maxRecDepth 100000
theorem ret_bool {a b : Bool} (h : a = b) : Ending.returned (.bool a) = .returned (.bool b) := by rw [h]
theorem ret_int {k : IntKind} {a b : Int} (h : a = b) : Ending.returned (.int k a) = .returned (.int k b) := by rw [h]
theorem ret_int_bool {k : IntKind} {a b : Int} {c d : Bool} (h : a = b) (h' : c = d) : Ending.returned (.tuple #[.int k a, .bool c]) = .returned (.tuple #[.int k b, .bool d]) := by rw [h, h']
theorem ret_int2_bool {k : IntKind} {a b a' b' : Int} {c d : Bool} (h : a = b) (h' : a' = b') (h'' : c = d) : Ending.returned (.tuple #[.int k a, .int k a', .bool c]) = .returned (.tuple #[.int k b, .int k b', .bool d]) := by rw [h, h', h'']
theorem ret_str {a b : ByteArray} (h : a = b) : Ending.returned (.string a) = .returned (.string b) := by rw [h]
theorem dropB {s : ByteArray} {k : Nat} (h : k < s.size) : s.toList.drop k = s[k] :: s.toList.drop (k + 1) := by
  rw [Lib.toList_data]
  exact List.drop_eq_getElem_cons (by rw [← Lib.size_eq]; exact h)
theorem dropB_end {s : ByteArray} {k : Nat} (h : s.size ≤ k) : s.toList.drop k = [] := by
  rw [Lib.toList_data]
  exact List.drop_eq_nil_of_le (by rw [← Lib.size_eq]; exact h)
theorem lenB (s : ByteArray) : s.toList.length = s.size := by rw [Lib.toList_data, Lib.size_eq]
theorem below_alloc {w0 w : World} (h : Below w0.heap.size w0 w) (o : Obj) : Below w0.heap.size w0 (w.alloc o) := h.alloc h.size o
theorem below_drewN {B : Nat} {a w : World} (h : Below B a w) (n : Nat) : Below B a (w.drewN n) := ⟨h.os, h.tape, h.output, h.size, h.block⟩
theorem below_then {w0 w w1 : World} (h : Below w0.heap.size w0 w) (h1 : Below w.heap.size w w1) : Below w0.heap.size w0 w1 := h.trans (h1.mono h.size)
theorem below_set {w0 w : World} (h : Below w0.heap.size w0 w) {p : Addr} (hp : w0.heap.size ≤ p.block) (u : Value) : Below w0.heap.size w0 (w.setCell p u) := h.setCell hp u
/-- a contract that leaves the world alone, inside a region that draws its order -/
theorem quiet_same {P : Program} {f : FuncId} {args : Array Value} {W : World} {a : Nat} {v : Value} (h : Calls P f args (W.drewN a) fun e w' => e = .returned v ∧ W.drewN a = w') :
    Calls P f args (W.drewN a) fun e w'' => e = .returned v ∧ ∃ m, w'' = W.drewN m :=
  h.mono fun _ _ ⟨he, hm⟩ => ⟨he, a, hm.symm⟩
theorem hide {p : Prop} (h : p) : Hid p := h
end Go.Proofs.YtabbgabdbkbjcaaDoor
