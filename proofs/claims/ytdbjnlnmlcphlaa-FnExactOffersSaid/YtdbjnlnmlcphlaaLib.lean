/- Small lemmas that every walk of this family uses. -/
import Derived.Test.YtdbjnlnmlcphlaaRows
import Derived.Test.YtdbjnlnmlcphlaaPure
import Derived.WalkKit
import Derived.ProofKit
import Derived.OpenShut
import Derived.Outline
import Derived.WalkLawsBesides
import Derived.WalkSpells
import Derived.Lib.Hide
import Derived.Lib.Strings
namespace Go.Proofs.Ytdbjnlnmlcphlaa
open Go.ChangeShapes Go.WideShapes Go.ChangeAt Go.RowKit
theorem ret_bool {a b : Bool} (h : a = b) : Ending.returned (.bool a) = .returned (.bool b) := by rw [h]
theorem ret_int {k : IntKind} {a b : Int} (h : a = b) : Ending.returned (.int k a) = .returned (.int k b) := by rw [h]
theorem ret_int_bool {k : IntKind} {a b : Int} {c d : Bool} (h : a = b) (h' : c = d) : Ending.returned (.tuple #[.int k a, .bool c]) = .returned (.tuple #[.int k b, .bool d]) := by rw [h, h']
theorem ret_str {a b : ByteArray} (h : a = b) : Ending.returned (.string a) = .returned (.string b) := by rw [h]
theorem dropB {s : ByteArray} {k : Nat} (h : k < s.size) : s.toList.drop k = s[k] :: s.toList.drop (k + 1) := by
  rw [Lib.toList_data]
  exact List.drop_eq_getElem_cons (by rw [← Lib.size_eq]; exact h)
theorem dropB_end {s : ByteArray} {k : Nat} (h : s.size ≤ k) : s.toList.drop k = [] := by
  rw [Lib.toList_data]
  exact List.drop_eq_nil_of_le (by rw [← Lib.size_eq]; exact h)
theorem lenB (s : ByteArray) : s.toList.length = s.size := by rw [Lib.toList_data, Lib.size_eq]
theorem hide {p : Prop} (h : p) : Hid p := h
end Go.Proofs.Ytdbjnlnmlcphlaa
