/- Merged texts of this repo: Pure, Lib, Mem, Draw, DrawOdd, Mem2, Mem3, DrawSplit, Pure2, AscPure, CellOps, CellH, CoreOps, Kind, Name, Cells, Meth, Reply, CoreMach, Tail, LayerH, Eq2, Open, Law, Inv, Inv2. -/
import Derived.PlainAid
import GoSem.Op.String
import Derived.Test.YtnabpefjcgehiaaRows
import Derived.WalkKit
import Derived.ProofKit
import Derived.OpenShut
import Derived.Outline
import Derived.WalkLawsBesides
import Derived.WalkSpells
import Derived.Lib.Hide
import Derived.Lib.Strings
import Derived.Deep.Draws
import Derived.Carry
import Derived.Deep.Slices
import Derived.Deep.Fields
import Derived.Deep.AppendLies
import Derived.Deep.QuietTactic
import Derived.BigQuiet
import Derived.RegionTactic
import Derived.Sort.Walk0
import Derived.StillTailTactics
import Derived.OrdersHeld
import Derived.StillTail
import Derived.Laws.StructEq
import Derived.ChangeKeysEq
import Derived.SliceStrings
import Derived.Lib.SmallJoins
import Derived.Orders
import Derived.ShutString
/- Plain functions and plain laws: what the program and the reference compute. No program in sight. -/
namespace Go.Proofs.Ytnabpefjcgehiaa.Pu

/-! ## Bytes and names -/
def letterI (b : Int) (first : Bool) : Bool := (decide (97 ≤ b) && decide (b ≤ 122)) || (!first && decide (48 ≤ b) && decide (b ≤ 57))
def lettersF : Bool → List UInt8 → Bool
  | _, [] => true
  | first, b :: r => letterI b.toNat first && lettersF false r
def nameL (l : List UInt8) : Bool := decide (0 < l.length) && decide (l.length ≤ 8) && lettersF true l
theorem letterI_mono {b : Int} (h : letterI b true = true) : letterI b false = true := by simp [letterI] at *; omega
theorem nameL_alt (b : UInt8) (r : List UInt8) : nameL (b :: r) = (decide (r.length + 1 ≤ 8) && letterI b.toNat true && lettersF false (b :: r)) := by
  have h := @letterI_mono b.toNat
  simp only [nameL, lettersF, List.length_cons]
  cases h1 : letterI b.toNat true <;> simp_all
def isNum (n : Int) : Bool := decide (0 ≤ n) && decide (n ≤ 999)

/-! ## Faces -/
def faceB (f : Int) : Bool := decide (0 ≤ f) && decide (f ≤ 63)
def hasB (f : Int) (k : Int) : Bool := (f / 2 ^ k.toNat) % 2 == 1
/-- from bit k on, n more bits: no bit of g that f lacks -/
def offTo (f g : Int) : Nat → Nat → Bool
  | _, 0 => true
  | k, n + 1 => if hasB g k then (if hasB f k then offTo f g (k+1) n else false) else offTo f g (k+1) n
def offersB (f g : Int) : Bool := faceB f && faceB g && offTo f g 0 6
theorem offTo_iff (f g : Int) : ∀ (n k : Nat), offTo f g k n = true ↔ ∀ j, k ≤ j → j < k + n → hasB g j = true → hasB f j = true
  | 0, k => by simp [offTo]; omega
  | n + 1, k => by
    have ih := offTo_iff f g n (k + 1)
    unfold offTo
    by_cases hg : hasB g k = true
    · by_cases hf : hasB f k = true
      · rw [if_pos hg, if_pos hf, ih]
        constructor
        · intro h j h1 h2 h3
          by_cases hj : j = k
          · subst hj; exact hf
          · exact h j (by omega) (by omega) h3
        · intro h j h1 h2 h3
          exact h j (by omega) (by omega) h3
      · rw [if_pos hg, if_neg hf]
        constructor
        · intro h; cases h
        · intro h; exact absurd (h k (by omega) (by omega) hg) hf
    · rw [if_neg hg, ih]
      constructor
      · intro h j h1 h2 h3
        by_cases hj : j = k
        · subst hj; exact absurd h3 hg
        · exact h j (by omega) (by omega) h3
      · intro h j h1 h2 h3
        exact h j (by omega) (by omega) h3
theorem offersB_iff {f g : Int} : offersB f g = true ↔ faceB f = true ∧ faceB g = true ∧ ∀ j : Nat, j < 6 → hasB g j = true → hasB f j = true := by
  unfold offersB
  rw [Bool.and_eq_true, Bool.and_eq_true, offTo_iff]
  constructor
  · rintro ⟨⟨h1, h2⟩, h3⟩
    exact ⟨h1, h2, fun j hj h => h3 j (by omega) (by omega) h⟩
  · rintro ⟨h1, h2, h3⟩
    exact ⟨⟨h1, h2⟩, fun j _ hj h => h3 j (by omega) h⟩
theorem offersB_refl {f : Int} (h : faceB f = true) : offersB f f = true := offersB_iff.2 ⟨h, h, fun _ _ hh => hh⟩
theorem offersB_trans {a b c : Int} (h1 : offersB a b = true) (h2 : offersB b c = true) : offersB a c = true := by
  rw [offersB_iff] at *
  exact ⟨h1.1, h2.2.1, fun j hj h => h1.2.2 j hj (h2.2.2 j hj h)⟩
theorem nat_of_faceB {f : Int} (h : faceB f = true) : ∃ n : Nat, f = (n : Int) ∧ n < 64 := by
  simp [faceB] at h
  exact ⟨f.toNat, by omega, by omega⟩
theorem offers_anti : ∀ a : Nat, a < 64 → ∀ b : Nat, b < 64 → offersB a b = true → offersB b a = true → a = b := by decide +kernel
theorem offersB_anti {a b : Int} (h1 : offersB a b = true) (h2 : offersB b a = true) : a = b := by
  obtain ⟨n, rfl, hn⟩ := nat_of_faceB (offersB_iff.1 h1).1
  obtain ⟨m, rfl, hm⟩ := nat_of_faceB (offersB_iff.1 h1).2.1
  rw [offers_anti n hn m hm h1 h2]
theorem offers_zero : ∀ a : Nat, a < 64 → offersB a 0 = true := by decide +kernel
theorem offers_all : ∀ a : Nat, a < 64 → offersB 63 a = true := by decide +kernel
theorem offersB_zero {a : Int} (h : faceB a = true) : offersB a 0 = true := by
  obtain ⟨n, rfl, hn⟩ := nat_of_faceB h
  exact offers_zero n hn
theorem offersB_all {a : Int} (h : faceB a = true) : offersB 63 a = true := by
  obtain ⟨n, rfl, hn⟩ := nat_of_faceB h
  exact offers_all n hn
theorem offersB_no {a b : Int} (h : ¬ (faceB a = true ∧ faceB b = true)) : offersB a b = false := by
  rw [Bool.eq_false_iff]
  intro hh
  rw [offersB_iff] at hh
  exact h ⟨hh.1, hh.2.1⟩

/-- the face of all abilities below k of which p says yes -/
def acc (p : Bool → Bool → Bool) (a b : Int) : Nat → Nat
  | 0 => 0
  | k + 1 => if p (hasB a k) (hasB b k) then acc p a b k + 2 ^ k else acc p a b k
theorem acc_lt (p : Bool → Bool → Bool) (a b : Int) : ∀ k, acc p a b k < 2 ^ k
  | 0 => by simp [acc]
  | k + 1 => by
    have h := acc_lt p a b k
    have h2 : 2 ^ (k + 1) = 2 ^ k + 2 ^ k := by rw [Nat.pow_succ]; omega
    unfold acc
    split <;> omega
theorem acc_step (p : Bool → Bool → Bool) (a b : Int) (k : Nat) : (acc p a b (k + 1) : Int) = (acc p a b k : Int) + if p (hasB a k) (hasB b k) then 2 ^ k else 0 := by
  rw [acc]; split <;> simp
theorem acc_bd (p : Bool → Bool → Bool) (a b : Int) {k : Nat} (h : k ≤ 6) : (acc p a b k : Int) ≤ 63 := by
  have h1 := acc_lt p a b k
  have h2 : 2 ^ k ≤ 64 := by
    have : (2 : Nat) ^ 6 = 64 := by decide
    rw [← this]
    exact Nat.pow_le_pow_right (by omega) h
  omega
theorem two_bd {k : Nat} (h : k < 6) : 0 ≤ (2 : Int) ^ k ∧ (2 : Int) ^ k ≤ 32 := by
  match k, h with
  | 0, _ | 1, _ | 2, _ | 3, _ | 4, _ | 5, _ => decide
def hows (how : Int) (x y : Bool) : Bool := if how = 0 then x && y else if how = 1 then x || y else x && !y
def made (a b how : Int) : Int := if faceB a && faceB b then (acc (hows how) a b 6 : Int) else 0
/-- how many abilities below k -/
def cnt (f : Int) : Nat → Nat
  | 0 => 0
  | k + 1 => if hasB f k then cnt f k + 1 else cnt f k
theorem cnt_le (f : Int) : ∀ k, cnt f k ≤ k
  | 0 => Nat.le_refl _
  | k + 1 => by
    have := cnt_le f k
    unfold cnt; split <;> omega
def countF (f : Int) : Int := if faceB f then (cnt f 6 : Int) else 0

/-- the faces below k that f offers -/
def under (f : Int) : Nat → List Int
  | 0 => []
  | k + 1 => if offersB f k then under f k ++ [(k : Int)] else under f k
theorem under_len (f : Int) : ∀ k, (under f k).length ≤ k
  | 0 => Nat.le_refl _
  | k + 1 => by
    have := under_len f k
    unfold under; split <;> simp <;> omega

def marks : Int → Nat → List Int
  | _, 0 => []
  | k, n + 1 => k :: marks (k + 1) n
theorem marks_len : ∀ (k : Int) (n : Nat), (marks k n).length = n
  | _, 0 => rfl
  | k, n + 1 => by rw [marks, List.length_cons, marks_len]
theorem marks_at : ∀ (k : Int) (n i : Nat), i < n → (marks k n)[i]? = some (k + i)
  | _, 0, _, h => by omega
  | k, n + 1, 0, _ => by simp [marks]
  | k, n + 1, i + 1, h => by
    rw [marks, List.getElem?_cons_succ, marks_at (k + 1) n i (by omega)]
    congr 1; omega
/-- what lies in a row while it is marked: i marks, and then what was there -/
theorem marks_set {l : List Int} {k : Int} {i : Nat} (h : i < l.length) : (marks k i ++ l.drop i).set i (k + i) = marks k (i + 1) ++ l.drop (i + 1) := by
  apply List.ext_getElem?
  intro j
  rw [List.getElem?_set]
  by_cases hj : i = j
  · subst hj
    rw [if_pos rfl, if_pos (by simp [marks_len]; omega), List.getElem?_append_left (by rw [marks_len]; omega), marks_at _ _ _ (by omega)]
  · rw [if_neg hj]
    by_cases hl : j < i
    · rw [List.getElem?_append_left (by rw [marks_len]; omega), List.getElem?_append_left (by rw [marks_len]; omega), marks_at _ _ _ hl, marks_at _ _ _ (by omega)]
    · rw [List.getElem?_append_right (by rw [marks_len]; omega), List.getElem?_append_right (by rw [marks_len]; omega), marks_len, marks_len, List.getElem?_drop, List.getElem?_drop]
      congr 1; omega

/-! ## Methods -/
def hasT : List ByteArray → List UInt8 → Bool
  | [], _ => false
  | x :: r, s => if x.toList == s then true else hasT r s
def meth : Nat → List (List UInt8)
  | 0 => [[83, 116, 97, 114, 116], [83, 116, 111, 112]]
  | 1 => [[71, 101, 116], [80, 117, 116]]
  | 2 => [[84, 101, 108, 108]]
  | 3 => [[72, 101, 97, 114]]
  | 4 => [[76, 111, 97, 100], [83, 97, 118, 101]]
  | 5 => [[72, 101, 97, 108]]
  | _ => []
def methB (k : Nat) : List ByteArray := (meth k).map fun l => ⟨l.toArray⟩

def abFrom (s : List UInt8) : Nat → Nat → Int
  | _, 0 => -1
  | k, n + 1 => if hasT (methB k) s then (k : Int) else abFrom s (k + 1) n
def abOf (s : List UInt8) : Int := abFrom s 0 6
theorem abFrom_bd (s : List UInt8) : ∀ n k, -1 ≤ abFrom s k n ∧ abFrom s k n < k + n
  | 0, k => by simp [abFrom]; omega
  | n + 1, k => by
    have h := abFrom_bd s n (k + 1)
    unfold abFrom
    split <;> omega
theorem abOf_bd (s : List UInt8) : -1 ≤ abOf s ∧ abOf s ≤ 5 := by
  have := abFrom_bd s 6 0
  unfold abOf; omega
def wantF (s : List UInt8) : Int := if abOf s < 0 then 0 else 2 ^ (abOf s).toNat
/-- the face of the abilities below k all of whose methods are in the list -/
def allIn (l : List ByteArray) : List ByteArray → Bool
  | [] => true
  | m :: r => hasT l m.toList && allIn l r
def faceOf (l : List ByteArray) : Nat → Nat
  | 0 => 0
  | k + 1 => if allIn l (methB k) then faceOf l k + 2 ^ k else faceOf l k
theorem faceOf_lt (l : List ByteArray) : ∀ k, faceOf l k < 2 ^ k
  | 0 => by simp [faceOf]
  | k + 1 => by
    have h := faceOf_lt l k
    have h2 : 2 ^ (k + 1) = 2 ^ k + 2 ^ k := by rw [Nat.pow_succ]; omega
    unfold faceOf
    split <;> omega
theorem faceOf_bd (l : List ByteArray) {k : Nat} (h : k ≤ 6) : (faceOf l k : Int) ≤ 63 := by
  have h1 := faceOf_lt l k
  have h2 : 2 ^ k ≤ 64 := by
    have : (2 : Nat) ^ 6 = 64 := by decide
    rw [← this]
    exact Nat.pow_le_pow_right (by omega) h
  omega
theorem faceOf_step (l : List ByteArray) (k : Nat) : (faceOf l (k + 1) : Int) = (faceOf l k : Int) + if allIn l (methB k) then 2 ^ k else 0 := by
  rw [faceOf]; split <;> simp

theorem set_mid {β : Type} {P Z : List β} {k : Nat} {x : β} (hx : P[k]? = some x) (h : P.length = Z.length) : (P.take k ++ Z.drop k).set k x = P.take (k + 1) ++ Z.drop (k + 1) := by
  obtain ⟨hk, rfl⟩ := List.getElem?_eq_some_iff.1 hx
  rw [List.set_append_right _ _ (by rw [List.length_take]; omega), List.length_take, Nat.min_eq_left (by omega), Nat.sub_self, List.drop_eq_getElem_cons (by omega : k < Z.length), List.set_cons_zero,
    List.take_succ_eq_append_getElem hk, List.append_assoc]
  rfl
theorem mid_at {β : Type} {P Z : List β} {k : Nat} (hk : k < Z.length) (h : P.length = Z.length) : (P.take k ++ Z.drop k)[k]? = some Z[k] := by
  rw [List.getElem?_append_right (by rw [List.length_take]; omega), List.length_take, Nat.min_eq_left (by omega), Nat.sub_self, List.getElem?_drop]
  simp

/-! ## Sizes -/
def tot : List ByteArray → Nat
  | [] => 0
  | x :: r => x.size + tot r
theorem tot_app (a b : List ByteArray) : tot (a ++ b) = tot a + tot b := by
  induction a with
  | nil => simp [tot]
  | cons x r ih => simp [tot, ih]; omega
theorem tot_take_succ {l : List ByteArray} {k : Nat} {x : ByteArray} (h : l[k]? = some x) : tot (l.take (k + 1)) = tot (l.take k) + x.size := by
  rw [List.take_add_one, h, tot_app]; simp [tot]
theorem tot_take_le (l : List ByteArray) (k : Nat) : tot (l.take k) ≤ tot l := by
  conv => rhs; rw [← List.take_append_drop k l, tot_app]
  omega
theorem tot_mem {l : List ByteArray} {x : ByteArray} (h : x ∈ l) : x.size ≤ tot l := by
  induction l with
  | nil => cases h
  | cons y r ih =>
    simp only [tot]
    rcases List.mem_cons.1 h with rfl | h
    · omega
    · have := ih h; omega
def szStr (l : List ByteArray) (left : Int) : Int := if (l.length + tot l : Int) ≤ left then left - (l.length + tot l) else -1

/-! ## Data -/
structure CellD where
  key : ByteArray
  val : Int
structure CoreD where
  kind : ByteArray
  on : Bool
  broken : Bool
  cells : List CellD
  count : Int
structure CallD where
  method : ByteArray
  key : ByteArray
  value : Int
  text : ByteArray
structure ReplyD where
  code : Int
  value : Int
  text : ByteArray
  want : Int
  had : Int
structure LayerD where
  name : ByteArray
  count : Int
structure PartD where
  core : CoreD
  layers : List LayerD

/-! ## Cells -/
/-- ascending keys behind p (if there is one), names, numbers -/
def keyB : Option ByteArray → ByteArray → Bool
  | none, _ => true
  | some p, k => Op.bytesLess p.toList k.toList
def cellsFrom : Option ByteArray → List CellD → Bool
  | _, [] => true
  | p, c :: r => nameL c.key.toList && isNum c.val && keyB p c.key && cellsFrom (some c.key) r
def cellsB (l : List CellD) : Bool := decide (l.length ≤ 4) && cellsFrom none l

/-! ## Kinds and adapters -/
def look {α : Type} : List (List UInt8 × α) → List UInt8 → Option α
  | [], _ => none
  | (n, x) :: r, s => if s == n then some x else look r s
theorem look_hit {α : Type} {n : List UInt8} {x : α} {r : List (List UInt8 × α)} {s : List UInt8} (h : (n == s) = true) : look ((n, x) :: r) s = some x := by
  simp at h; subst h; simp [look]
theorem look_miss {α : Type} {n : List UInt8} {x : α} {r : List (List UInt8 × α)} {s : List UInt8} (h : (n == s) = false) : look ((n, x) :: r) s = look r s := by
  rw [look, if_neg]; simp at h ⊢; exact fun e => h e.symm
def kinds : List (List UInt8 × Int) := [([115, 116, 111, 110, 101], 0), ([108, 97, 109, 112], 1), ([115, 104, 101, 108, 102], 2), ([109, 101, 116, 101, 114], 5), ([100, 114, 97, 119, 101, 114], 3), ([104, 111, 114, 110], 9), ([118, 97, 117, 108, 116], 19), ([114, 111, 98, 111, 116], 63)]
def kindF (s : List UInt8) : Int := (look kinds s).getD 0
def kindOk (s : List UInt8) : Bool := (look kinds s).isSome
theorem kind_of {s : List UInt8} {x : Int} (h : look kinds s = some x) : x = kindF s ∧ true = kindOk s := by simp [kindF, kindOk, h]
theorem kind_none {s : List UInt8} (h : look kinds s = none) : 0 = kindF s ∧ false = kindOk s := by simp [kindF, kindOk, h]
def layers : List (List UInt8 × (Int × Int)) := [([112, 108, 97, 105, 110], (0, 0)), ([114, 117, 110, 115], (1, 1)), ([107, 101, 101, 112, 115], (2, 2)), ([99, 111, 117, 110, 116, 115], (2, 6)), ([108, 97, 122, 121], (3, 3)), ([114, 101, 97, 100, 115], (2, 2)), ([104, 101, 97, 114, 115], (1, 9)), ([104, 101, 97, 108, 115], (1, 33)), ([116, 119, 105, 99, 101], (4, 4))]
def layN (s : List UInt8) : Int := ((look layers s).getD (0, 0)).1
def layG (s : List UInt8) : Int := ((look layers s).getD (0, 0)).2
def layOk (s : List UInt8) : Bool := (look layers s).isSome
theorem lay_of {s : List UInt8} {x y : Int} (h : look layers s = some (x, y)) : x = layN s ∧ y = layG s ∧ true = layOk s := by simp [layN, layG, layOk, h]
theorem lay_none {s : List UInt8} (h : look layers s = none) : 0 = layN s ∧ 0 = layG s ∧ false = layOk s := by simp [layN, layG, layOk, h]
end Go.Proofs.Ytnabpefjcgehiaa.Pu
/- Small lemmas that every walk of this family uses. -/
namespace Go.Proofs.Ytnabpefjcgehiaa
open Go.ChangeShapes Go.WideShapes Go.ChangeAt Go.RowKit
set_option maxRecDepth 100000
theorem ret_bool {a b : Bool} (h : a = b) : Ending.returned (.bool a) = .returned (.bool b) := by rw [h]
theorem ret_int {k : IntKind} {a b : Int} (h : a = b) : Ending.returned (.int k a) = .returned (.int k b) := by rw [h]
theorem ret_int_bool {k : IntKind} {a b : Int} {c d : Bool} (h : a = b) (h' : c = d) : Ending.returned (.tuple #[.int k a, .bool c]) = .returned (.tuple #[.int k b, .bool d]) := by rw [h, h']
theorem ret_int2_bool {k : IntKind} {a b a' b' : Int} {c d : Bool} (h : a = b) (h' : a' = b') (h'' : c = d) : Ending.returned (.tuple #[.int k a, .int k a', .bool c]) = .returned (.tuple #[.int k b, .int k b', .bool d]) := by rw [h, h', h'']
theorem ret_str {a b : ByteArray} (h : a = b) : Ending.returned (.string a) = .returned (.string b) := by rw [h]
theorem dropB {s : ByteArray} {k : Nat} (h : k < s.size) : s.toList.drop k = s[k] :: s.toList.drop (k + 1) := by
  rw [Lib.toList_data]
  exact List.drop_eq_getElem_cons (by rw [← Lib.size_eq]; exact h)
theorem dropB_end {s : ByteArray} {k : Nat} (h : s.size ≤ k) : s.toList.drop k = [] := by
  rw [Lib.toList_data]
  exact List.drop_eq_nil_of_le (by rw [← Lib.size_eq]; exact h)
theorem lenB (s : ByteArray) : s.toList.length = s.size := by rw [Lib.toList_data, Lib.size_eq]
theorem below_alloc {w0 w : World} (h : Below w0.heap.size w0 w) (o : Obj) : Below w0.heap.size w0 (w.alloc o) := h.alloc h.size o
theorem below_drewN {B : Nat} {a w : World} (h : Below B a w) (n : Nat) : Below B a (w.drewN n) := ⟨h.os, h.tape, h.output, h.size, h.block⟩
theorem below_then {w0 w w1 : World} (h : Below w0.heap.size w0 w) (h1 : Below w.heap.size w w1) : Below w0.heap.size w0 w1 := h.trans (h1.mono h.size)
theorem below_set {w0 w : World} (h : Below w0.heap.size w0 w) {p : Addr} (hp : w0.heap.size ≤ p.block) (u : Value) : Below w0.heap.size w0 (w.setCell p u) := h.setCell hp u
/-- a contract that leaves the world alone, inside a region that draws its order -/
theorem quiet_same {P : Program} {f : FuncId} {args : Array Value} {W : World} {a : Nat} {v : Value} (h : Calls P f args (W.drewN a) fun e w' => e = .returned v ∧ W.drewN a = w') :
    Calls P f args (W.drewN a) fun e w'' => e = .returned v ∧ ∃ m, w'' = W.drewN m :=
  h.mono fun _ _ ⟨he, hm⟩ => ⟨he, a, hm.symm⟩
theorem hide {p : Prop} (h : p) : Hid p := h
end Go.Proofs.Ytnabpefjcgehiaa
/- How data lies in memory: slices that read as lists, structs. -/
namespace Go.Proofs.Ytnabpefjcgehiaa
open Go.ChangeShapes Go.WideShapes Go.ChangeAt Go.RowKit
set_option maxRecDepth 100000

/-- The slice value v reads as the list l; an element x lies as the cells 'en x' ('size' of them). -/
def RdL {α : Type} (w : World) (size : Nat) (en : α → List Value) (v : Value) (l : List α) : Prop :=
  ∃ A c, v = .slice A l.length c ∧ l.length ≤ c ∧ c ≤ maxLen ∧
    (0 < l.length → ∃ g o, A = some ⟨g, o, none⟩ ∧ g < w.heap.size ∧ ∀ i x, l[i]? = some x → ∀ j u, (en x)[j]? = some u → w.cell? ⟨g, o + i * size + j, none⟩ = some u)

section
variable {α : Type} {w w' : World} {size : Nat} {en : α → List Value} {v : Value} {l : List α}
theorem RdL.nil (w : World) (size : Nat) (en : α → List Value) : RdL w size en (.slice none 0 0) [] := ⟨none, 0, rfl, Nat.le_refl _, Nat.zero_le _, fun h => absurd h (by simp)⟩
theorem RdL.below {B : Nat} (h : RdL w size en v l) (hb : Below B w w') (hB : w.heap.size ≤ B) : RdL w' size en v l := by
  obtain ⟨A, c, hv, h1, h2, h3⟩ := h
  refine ⟨A, c, hv, h1, h2, fun hl => ?_⟩
  obtain ⟨g, o, hA, hg, hc⟩ := h3 hl
  exact ⟨g, o, hA, Nat.lt_of_lt_of_le hg hb.size, fun i x hx j u hu => (hb.cell (p := ⟨g, _, none⟩) (by show g < B; omega)).trans (hc i x hx j u hu)⟩
end

def strEn (s : ByteArray) : List Value := [.string s]
def cellEn (c : Pu.CellD) : List Value := [.string c.key, .int .i64 c.val]
def callEn (x : Pu.CallD) : List Value := [.string x.method, .string x.key, .int .i64 x.value, .string x.text]
def replyEn (r : Pu.ReplyD) : List Value := [.int .i64 r.code, .int .i64 r.value, .string r.text, .int .i64 r.want, .int .i64 r.had]
def layerEn (x : Pu.LayerD) : List Value := [.string x.name, .int .i64 x.count]
def byteEn (b : UInt8) : List Value := [.int .u8 b.toNat]
def intEn (n : Int) : List Value := [.int .i64 n]

def RdStr (w : World) := RdL w 1 strEn
def RdInt (w : World) := RdL w 1 intEn
/-- Cells, each key and value within what Go's types hold. -/
def CellD.wf (c : Pu.CellD) : Prop := c.key.size ≤ maxLen ∧ (Lit.int .i64 c.val).wf = true
def RdCells (w : World) (v : Value) (l : List Pu.CellD) : Prop := RdL w 2 cellEn v l ∧ ∀ c ∈ l, CellD.wf c
/-- what a slice's address is good for -/
def RdAt {α : Type} (w : World) (size : Nat) (en : α → List Value) (A : Option Addr) (l : List α) : Prop :=
  0 < l.length → ∃ g o, A = some ⟨g, o, none⟩ ∧ g < w.heap.size ∧ ∀ i x, l[i]? = some x → ∀ j u, (en x)[j]? = some u → w.cell? ⟨g, o + i * size + j, none⟩ = some u
theorem RdL.open_ {α : Type} {w : World} {size : Nat} {en : α → List Value} {v : Value} {l : List α} (h : RdL w size en v l) :
    ∃ A c, v = .slice A l.length c ∧ l.length ≤ c ∧ c ≤ 9223372036854775807 ∧ RdAt w size en A l := by
  obtain ⟨A, c, h1, h2, h3, h4⟩ := h
  exact ⟨A, c, h1, h2, by unfold maxLen at h3; omega, h4⟩
/-- the list lies from block g, place o on -/
def RdFrom {α : Type} (w : World) (size : Nat) (en : α → List Value) (g o : Nat) (l : List α) : Prop :=
  g < w.heap.size ∧ ∀ i x, l[i]? = some x → ∀ j u, (en x)[j]? = some u → w.cell? ⟨g, o + i * size + j, none⟩ = some u
theorem RdAt.at_ {α : Type} {w : World} {size : Nat} {en : α → List Value} {A : Option Addr} {l : List α} (h : RdAt w size en A l) (hl : 0 < l.length) :
    ∃ g o, A = some ⟨g, o, none⟩ ∧ g < w.heap.size ∧ Hid (RdFrom w size en g o l) := by
  obtain ⟨g, o, hA, hg, hc⟩ := h hl
  exact ⟨g, o, hA, hg, hg, hc⟩
theorem RdFrom.get {α : Type} {w wr : World} {size : Nat} {en : α → List Value} {g o : Nat} {l : List α} (h : RdFrom w size en g o l) (hb : Below w.heap.size w wr) {k : Nat} (hk : k < l.length) :
    ∃ x, Hid (l[k]? = some x) ∧ ∀ j u, (en x)[j]? = some u → wr.cell? ⟨g, o + k * size + j, none⟩ = some u :=
  ⟨l[k], List.getElem?_eq_getElem hk, fun j u hu => (hb.cell (p := ⟨g, _, none⟩) h.1).trans (h.2 k _ (List.getElem?_eq_getElem hk) j u hu)⟩
theorem cell_get {w wr : World} {g o : Nat} {l : List Pu.CellD} (h : Hid (RdFrom w 2 cellEn g o l)) (hb : Below w.heap.size w wr) {k : Nat} (hk : k < l.length) :
    ∃ x, Hid (l[k]? = some x) ∧ wr.cell? ⟨g, o + k * 2, none⟩ = some (.string x.key) ∧ wr.cell? ⟨g, o + k * 2 + 1, none⟩ = some (.int .i64 x.val) := by
  obtain ⟨x, hx, hc⟩ := h.out.get hb hk
  exact ⟨x, hx, hc 0 _ rfl, hc 1 _ rfl⟩
theorem heap_new {w : World} {o : Obj} {k : Nat} (h : k = w.heap.size) : (w.alloc o).heap[k]? = some o := by subst h; exact heap_alloc_new w o
theorem heap_old {w : World} {o x : Obj} {k : Nat} (h : k < w.heap.size) (hx : w.heap[k]? = some x) : (w.alloc o).heap[k]? = some x := (heap_alloc_old w o h).trans hx

/-! ## Slices that the call made itself -/
/-- v owns the list l: a row of its own, in a block from 'base' on. -/
def OwnL {α : Type} (w : World) (base : Nat) (e : TypeId) (size : Nat) (en : α → List Value) (v : Value) (l : List α) : Prop := w.ownsRow base e size v l.length (l.flatMap en)
section
variable {α : Type} {w w' : World} {base : Nat} {e : TypeId} {size : Nat} {en : α → List Value} {v : Value} {l : List α}
theorem OwnL.nil (w : World) (base : Nat) (e : TypeId) (size : Nat) (en : α → List Value) : OwnL w base e size en (.slice none 0 0) [] := World.ownsRow_nil _ _ _ _
theorem OwnL.snoc {x : α} {v' : Value} (h : w'.ownsRow base e size v' (l.length + 1) (l.flatMap en ++ en x)) : OwnL w' base e size en v' (l ++ [x]) := by
  unfold OwnL; simpa using h
theorem OwnL.app {m : List α} {v' : Value} (h : w'.ownsRow base e size v' (l.length + m.length) (l.flatMap en ++ m.flatMap en)) : OwnL w' base e size en v' (l ++ m) := by
  unfold OwnL; simpa using h
theorem flat_at {en : α → List Value} {size : Nat} (hs : ∀ x, (en x).length = size) : ∀ {l : List α} {i : Nat} {x : α}, l[i]? = some x → ∀ {j : Nat} {u : Value}, (en x)[j]? = some u → (l.flatMap en)[i * size + j]? = some u
  | [], i, x, h, _, _, _ => by simp at h
  | y :: r, 0, x, h, j, u, hu => by
    simp at h; subst h
    rw [Nat.zero_mul, Nat.zero_add, List.flatMap_cons, List.getElem?_append_left (List.getElem?_eq_some_iff.1 hu).1]
    exact hu
  | y :: r, i + 1, x, h, j, u, hu => by
    have h' : r[i]? = some x := by simpa using h
    rw [List.flatMap_cons, List.getElem?_append_right (by rw [hs, Nat.add_mul]; omega), hs, show (i + 1) * size + j - size = i * size + j by rw [Nat.add_mul]; omega]
    exact flat_at hs h' hu
theorem flat_len {en : α → List Value} {size : Nat} (hs : ∀ x, (en x).length = size) : ∀ l : List α, (l.flatMap en).length = l.length * size
  | [] => by simp
  | x :: r => by rw [List.flatMap_cons, List.length_append, hs, flat_len hs r, List.length_cons, Nat.add_mul]; omega
theorem OwnL.rd (hs : ∀ x, (en x).length = size) (h : OwnL w base e size en v l) : RdL w size en v l := by
  obtain ⟨hl, h2⟩ := h
  rcases h2 with ⟨rfl, h0⟩ | ⟨g, cap, cur, rfl, hb, hg, hnc, hcm, hcs, htake⟩
  · have : l = [] := List.eq_nil_of_length_eq_zero h0
    subst this
    exact RdL.nil w size en
  · refine ⟨_, cap, rfl, hnc, hcm, fun _ => ⟨g, 0, rfl, ?_, fun i x hx j u hu => ?_⟩⟩
    · rcases Nat.lt_or_ge g w.heap.size with hlt | hge
      · exact hlt
      · rw [Array.getElem?_eq_none hge] at hg; cases hg
    · have h1 := flat_at hs hx hu
      rw [← htake, List.getElem?_take] at h1
      split at h1
      · rw [cell_of_row w g _ cur e (0, 0) hg]
        simpa using h1
      · cases h1
theorem OwnL.kept {row : Option Nat} (h : OwnL w base e size en v l) (hg : w.grownBy w' row) (hne : v.ownBlock = none ∨ v.ownBlock ≠ row) : OwnL w' base e size en v l := World.ownsRow.kept h hg hne
theorem OwnL.below {B : Nat} (h : OwnL w base e size en v l) (hb : Below B w w') (hB : w.heap.size ≤ B) : OwnL w' base e size en v l := by
  obtain ⟨hl, h2⟩ := h
  refine ⟨hl, ?_⟩
  rcases h2 with h2 | ⟨g, cap, cur, hv, hbs, hg, r⟩
  · exact .inl h2
  · refine .inr ⟨g, cap, cur, hv, hbs, ?_, r⟩
    have : g < w.heap.size := by
      rcases Nat.lt_or_ge g w.heap.size with hlt | hge
      · exact hlt
      · rw [Array.getElem?_eq_none hge] at hg; cases hg
    rw [hb.block g (by omega)]
    exact hg
theorem OwnL.mono {b' : Nat} (h : OwnL w base e size en v l) (hb : b' ≤ base) : OwnL w b' e size en v l := by
  obtain ⟨hl, h2⟩ := h
  refine ⟨hl, ?_⟩
  rcases h2 with h2 | ⟨g, cap, cur, hv, hbs, r⟩
  · exact .inl h2
  · exact .inr ⟨g, cap, cur, hv, by omega, r⟩
end
/-- 'append(out, x)': x lies in a new block of its own; out is the call's own. -/
theorem push_law {α : Type} {P : Program} {ops : Array Oper} {rest : List Oper} {o : Oper} {a : Act} {Q : Exit → Act → World → Prop} {w0 wr : World} (hgd : o.guard = none) (s x : Operand) (t : TypeId)
    (ho : o.op = .call { callee := .builtin .append, args := #[s, x], argTypes := #[t, t] }) (base : Nat) (e : TypeId) (i : TypeInfo) (z : Value) (size bytes : Nat)
    (ht : P.underlying t = some (.slice e)) (hi : P.info? e = some i) (hz : i.zero = some z) (hsize : i.size = size) (hby : i.bytes = bytes) (hzs : z.cells.size = size) (hsz : 0 < size)
    (en : α → List Value) (v : Value) (l : List α) (y : α) (hs : a.eval s = v) (hown : OwnL wr base e size en v l) (hx : a.eval x = .slice (some ⟨wr.heap.size, 0, none⟩) 1 1)
    (hlen : (en y).length = size) (hone : ∀ u ∈ en y, u.oneCell' = true) (hb : Below w0.heap.size w0 wr) (hbs : w0.heap.size ≤ base) (hb' : base ≤ wr.heap.size) (hn : l.length < 1099511627776) (hbytes : bytes ≤ 64)
    (h : ∀ v' w', OwnL w' base e size en v' (l ++ [y]) → (wr.alloc (.cells (en y).toArray e)).grownBy w' v.ownBlock → Below w0.heap.size w0 w' → wpList P ops Q rest (a.put o.dst v') w') :
    wpList P ops Q (o :: rest) a (wr.alloc (.cells (en y).toArray e)) := by
  refine wpList_append_own _ hgd s x t ho base e i z size bytes ht hi hz hsize hby hzs hsz v l.length (l.flatMap en) hs (World.ownsRow.alloc hown _) ⟨wr.heap.size, 0, none⟩ 1 1 (en y) hx (by omega) ?_ hone (by unfold maxLen; omega) ?_ (by simp; omega) ?_
  · intro j u hj
    have e1 : (⟨wr.heap.size, 0, none⟩ : Addr).add j = ⟨wr.heap.size, j, none⟩ := by unfold Addr.add; split <;> simp_all
    rw [e1, cell_of_row _ wr.heap.size j (en y).toArray e (0, 0) (heap_alloc_new wr _)]
    simpa using hj
  · calc (l.length + 1) * bytes ≤ 1099511627776 * 64 := Nat.mul_le_mul (by omega) hbytes
      _ ≤ 140737488355328 := by decide
  · intro v' w' hown' hg _
    exact h v' w' (OwnL.snoc hown') hg ((below_alloc hb _).grown hg (Nat.le_trans hb.size (by simp)) (fun k hk => Nat.le_trans hbs (World.ownsRow.lt hown k hk).1))
theorem info_int : (Try.prog.info? 3).map (fun i => (i.zero, i.size, i.bytes)) = some (some (.int .i64 0), 1, 8) := by kernel_rfl
theorem one_int (n : Int) : ∀ u ∈ [Value.int .i64 n], u.oneCell' = true := by simp [Value.oneCell']
theorem dropL {α : Type} {l : List α} {k : Nat} {x : α} (h : Hid (l[k]? = some x)) : l.drop k = x :: l.drop (k + 1) := by
  have h' := h.out
  obtain ⟨hk, rfl⟩ := List.getElem?_eq_some_iff.1 h'
  exact List.drop_eq_getElem_cons hk
theorem str_get {w wr : World} {g o : Nat} {l : List ByteArray} (h : Hid (RdFrom w 1 strEn g o l)) (hb : Below w.heap.size w wr) {k : Nat} (hk : k < l.length) :
    ∃ x, Hid (l[k]? = some x) ∧ wr.cell? ⟨g, o + k, none⟩ = some (.string x) := by
  obtain ⟨x, hx, hc⟩ := h.out.get hb hk
  have := hc 0 _ rfl
  rw [Nat.mul_one, Nat.add_zero] at this
  exact ⟨x, hx, this⟩
theorem dropEnd {α : Type} {l : List α} {k : Nat} (h : l.length ≤ k) : l.drop k = [] := List.drop_eq_nil_of_le h
theorem rd_new {w : World} {g n : Nat} {e : TypeId} (l : List ByteArray) (hn : n = l.length) (hl : n ≤ maxLen) (hg : w.heap[g]? = some (.cells (l.map Value.string).toArray e (0, 0))) :
    RdStr w (.slice (some ⟨g, 0, none⟩) n n) l := by
  subst hn
  refine ⟨_, _, rfl, Nat.le_refl _, hl, fun _ => ⟨g, 0, rfl, ?_, fun i x hx j u hu => ?_⟩⟩
  · rcases Nat.lt_or_ge g w.heap.size with hlt | hge
    · exact hlt
    · rw [Array.getElem?_eq_none hge] at hg; cases hg
  · rw [cell_of_row w g _ _ e (0, 0) hg]
    match j, hu with
    | 0, hu =>
      simp [strEn] at hu
      subst hu
      simp [hx]
    | j + 1, hu => simp [strEn] at hu
theorem flat_str (l : List ByteArray) : l.flatMap strEn = l.map Value.string := by
  induction l with
  | nil => rfl
  | cons x r ih => simp [strEn] at ih ⊢; exact ih
theorem info_str : (Try.prog.info? 9).map (fun i => (i.zero, i.size, i.bytes)) = some (some (.string ByteArray.empty), 1, 16) := by kernel_rfl
theorem flat_int (l : List Int) : l.flatMap intEn = l.map (Value.int .i64) := by
  induction l with
  | nil => rfl
  | cons x r ih => simp [intEn] at ih ⊢; exact ih
/-- an owned slice that is not empty begins at the head of a block -/
theorem OwnL.at_ {α : Type} {w : World} {base : Nat} {e : TypeId} {size : Nat} {en : α → List Value} {v : Value} {l : List α} (h : OwnL w base e size en v l) (hl : 0 < l.length) :
    ∃ g c, v = .slice (some ⟨g, 0, none⟩) l.length c ∧ base ≤ g ∧ g < w.heap.size ∧ l.length ≤ c ∧ c ≤ 9223372036854775807 := by
  obtain ⟨_, h2⟩ := h
  rcases h2 with ⟨_, h0⟩ | ⟨g, cap, cur, rfl, hb, hg, hnc, hcm, _⟩
  · omega
  · refine ⟨g, cap, rfl, hb, ?_, hnc, by unfold maxLen at hcm; omega⟩
    rcases Nat.lt_or_ge g w.heap.size with hlt | hge
    · exact hlt
    · rw [Array.getElem?_eq_none hge] at hg; cases hg
theorem OwnL.empty {α : Type} {w : World} {base : Nat} {e : TypeId} {size : Nat} {en : α → List Value} {v : Value} {l : List α} (h : OwnL w base e size en v l) (hl : l.length = 0) :
    ∃ A c, v = .slice A 0 c := by
  obtain ⟨_, h2⟩ := h
  rcases h2 with ⟨rfl, _⟩ | ⟨g, cap, cur, rfl, _⟩
  · exact ⟨none, 0, rfl⟩
  · exact ⟨_, cap, by rw [hl]⟩
theorem own_lt {w : World} {base g n c m : Nat} {e : TypeId} {size : Nat} {xs : List Value} (h : w.ownsRow base e size (.slice (some ⟨g, 0, none⟩) n c) m xs) : g < w.heap.size :=
  (World.ownsRow.lt h g rfl).2
theorem row_below {w w' : World} {base B : Nat} {e : TypeId} {size n : Nat} {v : Value} {xs : List Value} (h : w.ownsRow base e size v n xs) (hb : Below B w w') (hB : w.heap.size ≤ B := by exact Nat.le_refl _) : w'.ownsRow base e size v n xs := by
  obtain ⟨h1, h2⟩ := h
  refine ⟨h1, ?_⟩
  rcases h2 with h2 | ⟨g, cap, cur, hv, hbs, hg, r⟩
  · exact .inl h2
  · refine .inr ⟨g, cap, cur, hv, hbs, ?_, r⟩
    have hlt := (Array.getElem?_eq_some_iff.1 hg).1
    rw [hb.block g (by omega)]
    exact hg
theorem grown_refl (w : World) (row : Option Nat) : w.grownBy w row := ⟨rfl, rfl, rfl, Nat.le_refl _, fun _ _ _ => rfl⟩
theorem grown_trans {a b c : World} {row : Option Nat} (h : a.grownBy b row) (k : b.grownBy c row) : a.grownBy c row :=
  ⟨k.os.trans h.os, k.tape.trans h.tape, k.output.trans h.output, Nat.le_trans h.size k.size, fun i hi hne => (k.block i (Nat.lt_of_lt_of_le hi h.size) hne).trans (h.block i hi hne)⟩
theorem rd_new_int {w : World} {g n : Nat} {e : TypeId} (l : List Int) (hn : n = l.length) (hl : n ≤ maxLen) (hg : w.heap[g]? = some (.cells (l.map (Value.int .i64)).toArray e (0, 0))) :
    RdInt w (.slice (some ⟨g, 0, none⟩) n n) l := by
  subst hn
  refine ⟨_, _, rfl, Nat.le_refl _, hl, fun _ => ⟨g, 0, rfl, ?_, fun i x hx j u hu => ?_⟩⟩
  · rcases Nat.lt_or_ge g w.heap.size with hlt | hge
    · exact hlt
    · rw [Array.getElem?_eq_none hge] at hg; cases hg
  · rw [cell_of_row w g _ _ e (0, 0) hg]
    match j, hu with
    | 0, hu =>
      simp [intEn] at hu
      subst hu
      simp [hx]
    | j + 1, hu => simp [intEn] at hu
theorem RdCells.below {w w1 : World} {v : Value} {l : List Pu.CellD} (h : RdCells w v l) (hb : Below w.heap.size w w1) : RdCells w1 v l := ⟨RdL.below h.1 hb (Nat.le_refl _), h.2⟩
theorem OwnL.shape {α : Type} {w : World} {base : Nat} {e : TypeId} {size : Nat} {en : α → List Value} {v : Value} {l : List α} (h : OwnL w base e size en v l) : ∃ A c, v = .slice A l.length c := by
  obtain ⟨_, h2⟩ := h
  rcases h2 with ⟨rfl, h0⟩ | ⟨g, cap, cur, rfl, _⟩
  · exact ⟨none, 0, by rw [h0]⟩
  · exact ⟨_, cap, rfl⟩
theorem five_cells {W : World} {g : Nat} {t : TypeId} {a b c d e : Value} (h : W.heap[g]? = some (.cells #[a, b, c, d, e] t (0, 0))) :
    W.cell? ⟨g, 0, none⟩ = some a ∧ W.cell? ⟨g, 1, none⟩ = some b ∧ W.cell? ⟨g, 2, none⟩ = some c ∧ W.cell? ⟨g, 3, none⟩ = some d ∧ W.cell? ⟨g, 4, none⟩ = some e ∧ ∀ j, W.frozen? ⟨g, j, none⟩ = false :=
  ⟨cell_of_row W g 0 _ t (0, 0) h, cell_of_row W g 1 _ t (0, 0) h, cell_of_row W g 2 _ t (0, 0) h, cell_of_row W g 3 _ t (0, 0) h, cell_of_row W g 4 _ t (0, 0) h, fun j => frozen_of_row W g j _ t h⟩
end Go.Proofs.Ytnabpefjcgehiaa
/- Contracts: the cursor of the drawn inputs. -/
namespace Go.Proofs.Ytnabpefjcgehiaa
open Go.ChangeShapes Go.WideShapes Go.ChangeAt Go.RowKit
set_option maxRecDepth 100000
theorem and255_bd (x : Int) : 0 ≤ bits .and .i64 x 255 ∧ bits .and .i64 x 255 ≤ 255 := by
  show 0 ≤ IntKind.i64.wrap ((BitVec.ofInt 64 x &&& BitVec.ofInt 64 255).toNat : Int) ∧ IntKind.i64.wrap ((BitVec.ofInt 64 x &&& BitVec.ofInt 64 255).toNat : Int) ≤ 255
  have h : (BitVec.ofInt 64 x &&& BitVec.ofInt 64 255).toNat ≤ 255 := by
    rw [BitVec.toNat_and]
    exact Nat.le_trans Nat.and_le_right (by decide)
  rw [IntKind.wrap_i64]
  omega
/-- the cursor in block g: the code's bytes, how many have been read, the number mixed in -/
def Cur (w : World) (g : Nat) (l : List UInt8) : Prop :=
  ∃ (A : Option Addr) (i c : Nat) (h : Int), w.heap[g]? = some (.cells #[.slice A l.length c, .int .i64 i, .int .i64 h] 69 (0, 0)) ∧ l.length ≤ 4096 ∧
    (0 < l.length → ∃ g' o, A = some ⟨g', o, none⟩ ∧ g' < g ∧ ∀ i x, l[i]? = some x → w.cell? ⟨g', o + i, none⟩ = some (.int .u8 x.toNat))
theorem grown_set {a w : World} {g j : Nat} (h : a.grownBy w (some g)) (u : Value) : a.grownBy (w.setCell ⟨g, j, none⟩ u) (some g) :=
  ⟨h.os, h.tape, h.output, by simpa [World.setCell] using h.size, fun i hi hne => (Below.heap_setCell w ⟨g, j, none⟩ u i (fun e => hne (by rw [e]))).trans (h.block i hi hne)⟩
theorem grown_drewN {a w : World} {row : Option Nat} (h : a.grownBy w row) (n : Nat) : a.grownBy (w.drewN n) row := ⟨h.os, h.tape, h.output, h.size, h.block⟩
/-- the cursor behind a step -/
theorem cur_step {w : World} {g i : Nat} {l : List UInt8} {A : Option Addr} {c : Nat} {h h' i' : Int} (hg : w.heap[g]? = some (.cells #[.slice A l.length c, .int .i64 i, .int .i64 h] 69 (0, 0))) (hl : l.length ≤ 4096)
    (hA : 0 < l.length → ∃ g' o, A = some ⟨g', o, none⟩ ∧ g' < g ∧ ∀ i x, l[i]? = some x → w.cell? ⟨g', o + i, none⟩ = some (.int .u8 x.toNat)) {W : World} {k : Nat} (hi : i' = (k : Int))
    (hw : W.heap[g]? = some (.cells #[.slice A l.length c, .int .i64 i', .int .i64 h'] 69 (0, 0))) (hgr : w.grownBy W (some g)) : Cur W g l := by
  subst hi
  refine ⟨A, k, c, h', hw, hl, fun h0 => ?_⟩
  obtain ⟨g', o, e, hlt, hc⟩ := hA h0
  have hgs : g < w.heap.size := by
    rcases Nat.lt_or_ge g w.heap.size with hlt | hge
    · exact hlt
    · rw [Array.getElem?_eq_none hge] at hg; cases hg
  exact ⟨g', o, e, hlt, fun i x hx => (World.cell?_of_block (a := ⟨g', o + i, none⟩) (hgr.block g' (by omega) (fun e => by cases e; omega))).trans (hc i x hx)⟩
theorem Cur.below {w w' : World} {g B : Nat} {l : List UInt8} (hc : Cur w g l) (hb : Below B w w') (hB : g < B) : Cur w' g l := by
  obtain ⟨A, i, c, h, hg, hl, hA⟩ := hc
  refine ⟨A, i, c, h, (hb.block g hB).trans hg, hl, fun h0 => ?_⟩
  obtain ⟨g', o, e, hlt, hcell⟩ := hA h0
  exact ⟨g', o, e, hlt, fun i x hx => (hb.cell (p := ⟨g', _, none⟩) (by show g' < B; omega)).trans (hcell i x hx)⟩
theorem Cur.alloc {w : World} {g : Nat} {l : List UInt8} (hc : Cur w g l) (hB : g < w.heap.size) (o : Obj) : Cur (w.alloc o) g l := hc.below (below_alloc (Below.refl _ _) o) hB
theorem grown_alloc {a w : World} {row : Option Nat} (h : a.grownBy w row) (o : Obj) : a.grownBy (w.alloc o) row :=
  ⟨h.os, h.tape, h.output, Nat.le_trans h.size (by simp), fun i hi hne => (Below.heap_alloc w o i (Nat.lt_of_lt_of_le hi h.size)).trans (h.block i hi hne)⟩
set_option maxHeartbeats 400000 in
theorem l1Byte_c (g : Nat) (l : List UInt8) (w : World) (hc : Cur w g l) :
    Calls Try.prog 38 #[.pointer (some ⟨g, 0, none⟩)] w fun e w' => ∃ x : Int, e = .returned (.int .i64 x) ∧ 0 ≤ x ∧ x ≤ 255 ∧ Cur w' g l ∧ w.grownBy w' (some g) := by
  obtain ⟨A, i, c, h, hg, hl, hA⟩ := hc
  have h0 : w.cell? ⟨g, 0, none⟩ = some (.slice A l.length c) := by rw [cell_of_row w g 0 _ _ (0, 0) hg]; rfl
  have h1 : w.cell? ⟨g, 1, none⟩ = some (.int .i64 i) := by rw [cell_of_row w g 1 _ _ (0, 0) hg]; rfl
  have h2 : w.cell? ⟨g, 2, none⟩ = some (.int .i64 h) := by rw [cell_of_row w g 2 _ _ (0, 0) hg]; rfl
  have f0 : ∀ j, w.frozen? ⟨g, j, none⟩ = false := fun j => frozen_of_row w g j _ _ hg
  have HA := hide hA
  have HG := hide hg
  clear hA hg
  by_cases hi : i < l.length
  · obtain ⟨g', o, rfl, hgg, hcell⟩ := HA.out (by omega)
    have hb := hcell i l[i] (List.getElem?_eq_getElem hi)
    have hne : ¬ g' = g := by omega
    go_enter Try.func38, Try.ntmps38
    go_wp2_with fail
    generalize wrap64 (wrap64 (h * 6364136223846793005) + 1442695040888963407) = h'
    go_quiet (fail)
    go_wp2_with fail
    obtain ⟨hx0, hx1⟩ := and255_bd (bits .xor .i64 (h' / 34359738368) (h' / 35184372088832))
    generalize bits .and .i64 (bits .xor .i64 (h' / 34359738368) (h' / 35184372088832)) 255 = x at hx0 hx1 ⊢
    go_quiet (fail)
    go_wp2_with fail
    go_quiet (fail)
    go_wp2_with fail
    go_ret
    obtain ⟨hy0, hy1⟩ := and255_bd (wrap64 (x + wrap64 ↑l[i].toNat))
    exact ⟨_, rfl, hy0, hy1, cur_step HG.out hl HA.out (k := i + 1) (by omega) (heap_setCell_same _ g 1 _ _ _ (heap_setCell_same w g 2 _ _ _ HG.out)) (grown_set (grown_drewN (grown_set (grown_refl _ _) _) _) _), grown_set (grown_drewN (grown_set (grown_refl _ _) _) _) _⟩
  · go_enter Try.func38, Try.ntmps38
    go_wp2_with fail
    generalize wrap64 (wrap64 (h * 6364136223846793005) + 1442695040888963407) = h'
    go_quiet (fail)
    go_wp2_with fail
    obtain ⟨hx0, hx1⟩ := and255_bd (bits .xor .i64 (h' / 34359738368) (h' / 35184372088832))
    generalize bits .and .i64 (bits .xor .i64 (h' / 34359738368) (h' / 35184372088832)) 255 = x at hx0 hx1 ⊢
    go_quiet (fail)
    go_wp2_with fail
    go_ret
    exact ⟨_, rfl, hx0, hx1, cur_step HG.out hl HA.out (k := i) rfl (heap_setCell_same w g 2 _ _ _ HG.out) (grown_drewN (grown_drewN (grown_set (grown_refl _ _) _) _) _), grown_drewN (grown_drewN (grown_set (grown_refl _ _) _) _) _⟩
theorem l1Below_c (g : Nat) (l : List UInt8) (n : Int) (w : World) (hc : Cur w g l) (hn : n ≤ 1048576) :
    Calls Try.prog 22 #[.pointer (some ⟨g, 0, none⟩), .int .i64 n] w fun e w' => ∃ x : Int, e = .returned (.int .i64 x) ∧ 0 ≤ x ∧ (0 < n → x < n) ∧ Cur w' g l ∧ w.grownBy w' (some g) := by
  by_cases h0 : n ≤ 0
  · go_enter Try.func22, Try.ntmps22
    go_wp2_with fail
    go_ret
    exact ⟨0, rfl, by omega, by omega, hc, grown_refl _ _⟩
  by_cases h1 : n ≤ 256
  · go_enter Try.func22, Try.ntmps22
    go_wp2_with fail
    refine (l1Byte_c _ _ _ hc).mono ?_; rintro e w1 ⟨x, rfl, hx0, hx1, hc1, hg1⟩
    go_wp2_with fail
    go_ret
    have hm := Int.emod_nonneg x (show n ≠ 0 by omega)
    have hm2 := Int.emod_lt_of_pos x (show 0 < n by omega)
    exact ⟨_, rfl, hm, fun _ => hm2, hc1, hg1⟩
  · go_enter Try.func22, Try.ntmps22
    go_wp2_with fail
    refine (l1Byte_c _ _ _ hc).mono ?_; rintro e w1 ⟨x, rfl, hx0, hx1, hc1, hg1⟩
    go_wp2_with fail
    refine (l1Byte_c _ _ _ hc1).mono ?_; rintro e w2 ⟨y, rfl, hy0, hy1, hc2, hg2⟩
    go_wp2_with fail
    refine (l1Byte_c _ _ _ hc2).mono ?_; rintro e w3 ⟨z, rfl, hz0, hz1, hc3, hg3⟩
    go_wp2_with fail
    go_ret
    have hm := Int.emod_nonneg (x * 65536 + y * 256 + z) (show n ≠ 0 by omega)
    have hm2 := Int.emod_lt_of_pos (x * 65536 + y * 256 + z) (show 0 < n by omega)
    exact ⟨_, rfl, hm, fun _ => hm2, hc3, grown_trans (grown_trans hg1 hg2) hg3⟩
theorem l1Once_c (g : Nat) (l : List UInt8) (n : Int) (w : World) (hc : Cur w g l) (hn : n ≤ 1048576) :
    Calls Try.prog 31 #[.pointer (some ⟨g, 0, none⟩), .int .i64 n] w fun e w' => ∃ b : Bool, e = .returned (.bool b) ∧ Cur w' g l ∧ w.grownBy w' (some g) := by
  go_enter Try.func31, Try.ntmps31
  go_wp2_with fail
  refine (l1Below_c _ _ _ _ hc hn).mono ?_; rintro e w1 ⟨x, rfl, hx0, hx1, hc1, hg1⟩
  go_wp2_with fail
  go_ret
  exact ⟨_, rfl, hc1, hg1⟩
theorem l1Int_c (g : Nat) (l : List UInt8) (v : Value) (m : List Int) (w : World) (hc : Cur w g l) (hv : RdInt w v m) (hm : 0 < m.length) (hm1 : m.length ≤ 1048576) (hfar : ∀ a c n, v = .slice (some a) n c → a.block ≠ g) :
    Calls Try.prog 55 #[.pointer (some ⟨g, 0, none⟩), v] w fun e w' => ∃ x : Int, e = .returned (.int .i64 x) ∧ x ∈ m ∧ Cur w' g l ∧ w.grownBy w' (some g) := by
  obtain ⟨A, c, rfl, hlc, hcm, hA⟩ := RdL.open_ hv
  obtain ⟨g', o, rfl, hg', HC⟩ := hA.at_ hm
  have hne : g' ≠ g := hfar _ _ _ rfl
  clear hA hfar
  go_enter Try.func55, Try.ntmps55
  go_wp2_with fail
  refine (l1Below_c _ _ _ _ hc (by omega)).mono ?_; rintro e w1 ⟨x, rfl, hx0, hx1, hc1, hg1⟩
  have hxl := hx1 (by omega)
  obtain ⟨k, rfl⟩ := Int.eq_ofNat_of_zero_le hx0
  obtain ⟨y, HY, hy⟩ : ∃ y, Hid (m[k]? = some y) ∧ w1.cell? ⟨g', o + k, none⟩ = some (.int .i64 y) := by
    refine ⟨m[k], List.getElem?_eq_getElem (by omega), ?_⟩
    have h1 := HC.out.2 k _ (List.getElem?_eq_getElem (by omega)) 0 _ rfl
    rw [Nat.mul_one, Nat.add_zero] at h1
    exact (World.cell?_of_block (a := ⟨g', o + k, none⟩) (hg1.block g' hg' (fun e => hne (by cases e; rfl)))).trans h1
  go_wp2_with fail
  go_ret
  exact ⟨y, rfl, List.mem_of_getElem? HY.out, hc1, hg1⟩
theorem l1Str_c (g : Nat) (l : List UInt8) (v : Value) (m : List ByteArray) (w : World) (hc : Cur w g l) (hv : RdStr w v m) (hm : 0 < m.length) (hm1 : m.length ≤ 1048576) (hfar : ∀ a c n, v = .slice (some a) n c → a.block ≠ g) :
    Calls Try.prog 48 #[.pointer (some ⟨g, 0, none⟩), v] w fun e w' => ∃ x : ByteArray, e = .returned (.string x) ∧ x ∈ m ∧ Cur w' g l ∧ w.grownBy w' (some g) := by
  obtain ⟨A, c, rfl, hlc, hcm, hA⟩ := RdL.open_ hv
  obtain ⟨g', o, rfl, hg', HC⟩ := hA.at_ hm
  have hne : g' ≠ g := hfar _ _ _ rfl
  clear hA hfar
  go_enter Try.func48, Try.ntmps48
  go_wp2_with fail
  refine (l1Below_c _ _ _ _ hc (by omega)).mono ?_; rintro e w1 ⟨x, rfl, hx0, hx1, hc1, hg1⟩
  have hxl := hx1 (by omega)
  obtain ⟨k, rfl⟩ := Int.eq_ofNat_of_zero_le hx0
  obtain ⟨y, HY, hy⟩ : ∃ y, Hid (m[k]? = some y) ∧ w1.cell? ⟨g', o + k, none⟩ = some (.string y) := by
    refine ⟨m[k], List.getElem?_eq_getElem (by omega), ?_⟩
    have h1 := HC.out.2 k _ (List.getElem?_eq_getElem (by omega)) 0 _ rfl
    rw [Nat.mul_one, Nat.add_zero] at h1
    exact (World.cell?_of_block (a := ⟨g', o + k, none⟩) (hg1.block g' hg' (fun e => hne (by cases e; rfl)))).trans h1
  go_wp2_with fail
  go_ret
  exact ⟨y, rfl, List.mem_of_getElem? HY.out, hc1, hg1⟩
set_option maxRecDepth 100000 in
theorem l1New_c (v : Value) (l : List UInt8) (w : World) (hv : RdL w 1 byteEn v l) (hl : l.length ≤ 4096) :
    Calls Try.prog 20 #[v] w fun e w' => ∃ g, e = .returned (.pointer (some ⟨g, 0, none⟩)) ∧ w.heap.size ≤ g ∧ g < w'.heap.size ∧ Cur w' g l ∧ Below w.heap.size w w' := by
  obtain ⟨A, c, rfl, hlc, hcm, hA⟩ := RdL.open_ hv
  have HA := hide hA
  clear hA hv
  go_enter Try.func20, Try.ntmps20
  go_wp2_with fail
  go_loopw [3, 4] (fun h i wr => ∃ (k : Nat) (hh : Int), k ≤ l.length ∧ i = .int .i64 k ∧ h = .int .i64 hh ∧ Below w.heap.size w wr) (fun _ i _ => l.length - (intOf i).toNat)
  case atStart => exact ⟨0, _, by omega, rfl, rfl, Below.refl _ _⟩
  case round =>
    obtain ⟨k, hh, hk, rfl, rfl, hb⟩ := hrel
    by_cases hlt : k < l.length
    · obtain ⟨g, o, rfl, hg, HC⟩ := HA.out.at_ (by omega)
      obtain ⟨x, HX, h0⟩ : ∃ x, Hid (l[k]? = some x) ∧ wr.cell? ⟨g, o + k, none⟩ = some (.int .u8 x.toNat) := by
        obtain ⟨x, hx, hc⟩ := HC.out.get hb hlt
        have := hc 0 _ rfl
        rw [Nat.mul_one, Nat.add_zero] at this
        exact ⟨x, hx, this⟩
      by_cases h4 : k < 4000
      · go_wp2
        go_roundw
        case rel => exact ⟨k + 1, _, by omega, by go_num, rfl, hb⟩
        case measure => simp [intOf]; omega
      · go_wp2
        go_ret
        refine ⟨wr.heap.size, rfl, hb.size, by simp, ⟨_, 0, c, _, heap_new rfl, hl, fun h0 => ?_⟩, below_alloc hb _⟩
        obtain ⟨g, o, e, hg, hc⟩ := HA.out h0
        exact ⟨g, o, e, Nat.lt_of_lt_of_le hg hb.size, fun i x hx => by
          have h1 := hc i x hx 0 _ rfl
          rw [Nat.mul_one, Nat.add_zero] at h1
          exact ((below_alloc hb _).cell (p := ⟨g, o + i, none⟩) hg).trans h1⟩
    · go_wp2
      go_ret
      refine ⟨wr.heap.size, rfl, hb.size, by simp, ⟨_, 0, c, _, heap_new rfl, hl, fun h0 => ?_⟩, below_alloc hb _⟩
      obtain ⟨g, o, e, hg, hc⟩ := HA.out h0
      exact ⟨g, o, e, Nat.lt_of_lt_of_le hg hb.size, fun i x hx => by
        have h1 := hc i x hx 0 _ rfl
        rw [Nat.mul_one, Nat.add_zero] at h1
        exact ((below_alloc hb _).cell (p := ⟨g, o + i, none⟩) hg).trans h1⟩
theorem big_c (v : Value) (l : List UInt8) (w : World) (hv : RdL w 1 byteEn v l) :
    Calls Try.prog 5 #[v] w fun e w' => e = .returned (.bool (decide (4096 < l.length))) ∧ w = w' := by
  obtain ⟨A, c, rfl, hlc, hcm, hA⟩ := RdL.open_ hv
  have HA := hide hA
  clear hA hv
  by_cases h : 4096 < l.length
  · go_enter Try.func5, Try.ntmps5
    go_wp2
    go_ret
    exact ⟨ret_bool (by simp; omega), rfl⟩
  · go_enter Try.func5, Try.ntmps5
    go_wp2
    go_ret
    exact ⟨ret_bool (by simp; omega), rfl⟩
end Go.Proofs.Ytnabpefjcgehiaa
/- Contracts: drawn odd numbers; the cursor kept. -/
namespace Go.Proofs.Ytnabpefjcgehiaa
open Go.ChangeShapes Go.WideShapes Go.ChangeAt Go.RowKit
set_option maxRecDepth 100000
theorem Cur.kept {w w' : World} {g : Nat} {l : List UInt8} (hc : Cur w g l) (hb : Below w.heap.size w w') (hg : g < w.heap.size) : Cur w' g l := hc.below hb hg
theorem grown_below {a w w' : World} {row : Option Nat} (h : a.grownBy w row) (hb : Below w.heap.size w w') : a.grownBy w' row :=
  ⟨hb.os.trans h.os, hb.tape.trans h.tape, hb.output.trans h.output, Nat.le_trans h.size hb.size, fun i hi hne => (hb.block i (Nat.lt_of_lt_of_le hi h.size)).trans (h.block i hi hne)⟩
theorem l1Odd_c (g : Nat) (l : List UInt8) (w : World) (hc : Cur w g l) (hgs : g < w.heap.size) :
    Calls Try.prog 44 #[.pointer (some ⟨g, 0, none⟩)] w fun e w' => ∃ x : Int, e = .returned (.int .i64 x) ∧ (Lit.int .i64 x).wf = true ∧ Cur w' g l ∧ w.grownBy w' (some g) := by
  go_enter Try.func44, Try.ntmps44
  go_wp2_with fail
  refine (l1Int_c _ _ _ [-1, 0, 1, 2, 3, 4, 5, 6, 7, 63, 64, 99, 100, 999, 1000, 9223372036854775807, -9223372036854775808] _ (hc.alloc hgs _) (rd_new_int (e := 3) _ rfl (by decide) (heap_new rfl)) (by decide) (by decide) (by intro a c n h; cases h; show w.heap.size ≠ g; omega)).mono ?_; rintro e w2 ⟨x, rfl, hx, hc2, hg2⟩
  go_wp2_with fail
  go_ret
  refine ⟨x, rfl, ?_, hc2, grown_trans (grown_alloc (grown_refl _ _) _) hg2⟩
  exact (show ∀ y ∈ ([-1, 0, 1, 2, 3, 4, 5, 6, 7, 63, 64, 99, 100, 999, 1000, 9223372036854775807, -9223372036854775808] : List Int), (Lit.int .i64 y).wf = true by decide) x hx
end Go.Proofs.Ytnabpefjcgehiaa
/- Owned rows over stores elsewhere. -/
namespace Go.Proofs.Ytnabpefjcgehiaa
open Go.ChangeShapes Go.WideShapes Go.ChangeAt Go.RowKit
set_option maxRecDepth 100000
theorem OwnL.set {α : Type} {w : World} {base : Nat} {e : TypeId} {size : Nat} {en : α → List Value} {v : Value} {l : List α} (h : OwnL w base e size en v l) {a : Addr} (ha : a.block < base) (u : Value) : OwnL (w.setCell a u) base e size en v l := by
  obtain ⟨hl, h2⟩ := h
  refine ⟨hl, ?_⟩
  rcases h2 with h2 | ⟨g, cap, cur, hv, hbs, hg, r⟩
  · exact .inl h2
  · exact .inr ⟨g, cap, cur, hv, hbs, by rw [Below.heap_setCell _ _ _ _ (by omega)]; exact hg, r⟩
/-- the same by the place of the row itself -/
theorem OwnL.set' {α : Type} {w : World} {base : Nat} {e : TypeId} {size : Nat} {en : α → List Value} {v : Value} {l : List α} (h : OwnL w base e size en v l) {a : Addr} (ha : ∀ g, v.ownBlock = some g → a.block ≠ g) (u : Value) : OwnL (w.setCell a u) base e size en v l := by
  obtain ⟨hl, h2⟩ := h
  refine ⟨hl, ?_⟩
  rcases h2 with h2 | ⟨g, cap, cur, rfl, hbs, hg, r⟩
  · exact .inl h2
  · exact .inr ⟨g, cap, cur, rfl, hbs, by rw [Below.heap_setCell _ _ _ _ (fun e => ha g rfl e.symm)]; exact hg, r⟩
end Go.Proofs.Ytnabpefjcgehiaa
/- Owned rows: apart from each other; worlds that differ within an interval of blocks. -/
namespace Go.Proofs.Ytnabpefjcgehiaa
open Go.ChangeShapes Go.WideShapes Go.ChangeAt Go.RowKit
set_option maxRecDepth 100000
/-- w' is w but for the blocks from B on and before C (and for new ones). -/
structure Within (B C : Nat) (w w' : World) : Prop where
  os : w'.os = w.os
  tape : w'.tape = w.tape
  output : w'.output = w.output
  size : w.heap.size ≤ w'.heap.size
  block : ∀ g, g < w.heap.size → (g < B ∨ C ≤ g) → w'.heap[g]? = w.heap[g]?
theorem Within.refl (B C : Nat) (w : World) : Within B C w w := ⟨rfl, rfl, rfl, Nat.le_refl _, fun _ _ _ => rfl⟩
theorem Within.trans {B C : Nat} {a b c : World} (h : Within B C a b) (k : Within B C b c) : Within B C a c :=
  ⟨k.os.trans h.os, k.tape.trans h.tape, k.output.trans h.output, Nat.le_trans h.size k.size, fun g hg hb => (k.block g (Nat.lt_of_lt_of_le hg h.size) hb).trans (h.block g hg hb)⟩
theorem Within.mono {B C B' C' : Nat} {a b : World} (h : Within B C a b) (hB : B' ≤ B) (hC : C ≤ C') : Within B' C' a b :=
  ⟨h.os, h.tape, h.output, h.size, fun g hg hb => h.block g hg (by omega)⟩
section
variable {α : Type} {w w' : World} {base : Nat} {e : TypeId} {size : Nat} {en : α → List Value} {v : Value} {l : List α}
theorem OwnL.lt (h : OwnL w base e size en v l) {g : Nat} (hg : v.ownBlock = some g) : base ≤ g ∧ g < w.heap.size := World.ownsRow.lt h g hg
theorem OwnL.apart {β : Type} {b' : Nat} {e' : TypeId} {size' : Nat} {en' : β → List Value} {v' : Value} {l' : List β} (h : OwnL w base e size en v l) (h' : OwnL w' b' e' size' en' v' l') (hb : w.heap.size ≤ b') :
    v.ownBlock = none ∨ v.ownBlock ≠ v'.ownBlock := by
  rcases hv : v.ownBlock with _ | g
  · exact .inl rfl
  · exact .inr fun e => by
      have h1 := (h.lt hv).2
      have h2 := (h'.lt e.symm).1
      omega
/-- an owned row behind a change within an interval that it does not touch -/
theorem OwnL.within {B C : Nat} (h : OwnL w base e size en v l) (hw : Within B C w w') (hv : ∀ g, v.ownBlock = some g → g < B ∨ C ≤ g) : OwnL w' base e size en v l := by
  obtain ⟨hl, h2⟩ := h
  refine ⟨hl, ?_⟩
  rcases h2 with h2 | ⟨g, cap, cur, rfl, hbs, hg, r⟩
  · exact .inl h2
  · refine .inr ⟨g, cap, cur, rfl, hbs, ?_, r⟩
    have : g < w.heap.size := by
      rcases Nat.lt_or_ge g w.heap.size with hlt | hge
      · exact hlt
      · rw [Array.getElem?_eq_none hge] at hg; cases hg
    rw [hw.block g this (hv g rfl)]
    exact hg
end
theorem Within.below {B C D : Nat} {w w' : World} (h : Within B C w w') (hD : D ≤ B) (hs : D ≤ w.heap.size) : Below D w w' :=
  ⟨h.os, h.tape, h.output, h.size, fun g hg => h.block g (by omega) (.inl (by omega))⟩
theorem Within.of {w w' : World} (h : Below w.heap.size w w') (B C : Nat) : Within B C w w' :=
  ⟨h.os, h.tape, h.output, h.size, fun g hg _ => h.block g hg⟩
end Go.Proofs.Ytnabpefjcgehiaa
/- Contracts: drawn texts with separators, drawn lists of texts. -/
namespace Go.Proofs.Ytnabpefjcgehiaa
open Go.ChangeShapes Go.WideShapes Go.ChangeAt Go.RowKit
set_option maxRecDepth 100000
theorem l1Word_c (g : Nat) (l : List UInt8) (w : World) (hc : Cur w g l) (hgs : g < w.heap.size) :
    Calls Try.prog 54 #[.pointer (some ⟨g, 0, none⟩)] w fun e w' => ∃ s : ByteArray, e = .returned (.string s) ∧ s.size ≤ 9 ∧ Cur w' g l ∧ w.grownBy w' (some g) := by
  go_enter Try.func54, Try.ntmps54
  go_wp2_with fail
  refine (l1Str_c _ _ _ [⟨#[97]⟩, ⟨#[98]⟩, ⟨#[100, 101, 115, 107]⟩, ⟨#[107, 49]⟩, ⟨#[122, 122, 57]⟩, ⟨#[108, 97, 109, 112]⟩, ⟨#[97, 98, 99, 100, 101, 102, 103, 104]⟩, ⟨#[97, 98, 99, 100, 101, 102, 103, 104, 105]⟩, ⟨#[]⟩, ⟨#[57, 97]⟩, ⟨#[65]⟩, ⟨#[97, 32, 98]⟩, ⟨#[97, 45, 98]⟩, ⟨#[114, 117, 110]⟩] _ (hc.alloc hgs _) (rd_new (e := 9) _ rfl (by decide) (heap_new rfl)) (by decide) (by decide) (by intro a c n h; cases h; show w.heap.size ≠ g; omega)).mono ?_; rintro e w2 ⟨y, rfl, hy, hc2, hgr2⟩
  have hyz : y.size ≤ 9 := (show ∀ z ∈ ([⟨#[97]⟩, ⟨#[98]⟩, ⟨#[100, 101, 115, 107]⟩, ⟨#[107, 49]⟩, ⟨#[122, 122, 57]⟩, ⟨#[108, 97, 109, 112]⟩, ⟨#[97, 98, 99, 100, 101, 102, 103, 104]⟩, ⟨#[97, 98, 99, 100, 101, 102, 103, 104, 105]⟩, ⟨#[]⟩, ⟨#[57, 97]⟩, ⟨#[65]⟩, ⟨#[97, 32, 98]⟩, ⟨#[97, 45, 98]⟩, ⟨#[114, 117, 110]⟩] : List ByteArray), z.size ≤ 9 by decide) y hy
  go_wp2_with fail
  go_ret
  exact ⟨y, rfl, hyz, hc2, grown_trans (grown_alloc (grown_refl _ _) _) hgr2⟩
end Go.Proofs.Ytnabpefjcgehiaa
/- Plain functions and plain laws: cores, parts, calls. -/
namespace Go.Proofs.Ytnabpefjcgehiaa.Pu
/-! ## Cores -/
def coreB (p : CoreD) : Bool :=
  kindOk p.kind.toList && cellsB p.cells && !(decide (0 < p.cells.length) && !hasB (kindF p.kind.toList) 1) && isNum p.count && !(p.on && p.broken) && (hasB (kindF p.kind.toList) 0 || (!p.on && !p.broken))
def cellKey (c : CellD) : List UInt8 × Int := (c.key.toList, c.val)
def coreKey (p : CoreD) : List UInt8 × Bool × Bool × List (List UInt8 × Int) × Int := (p.kind.toList, p.on, p.broken, p.cells.map cellKey, p.count)
/-- the bits of a kind's face -/
theorem kind_faces (s : List UInt8) : kindF s = 0 ∨ kindF s = 1 ∨ kindF s = 2 ∨ kindF s = 5 ∨ kindF s = 3 ∨ kindF s = 9 ∨ kindF s = 19 ∨ kindF s = 63 := by
  simp only [kindF, kinds, look]
  repeat' (split; · simp)
  simp
theorem kind_bd (s : List UInt8) : 0 ≤ kindF s ∧ kindF s ≤ 63 := by
  have := kind_faces s
  omega
def szCore (p : CoreD) (left : Int) : Int := if (p.kind.size + p.cells.length + tot (p.cells.map (·.key)) : Int) ≤ left then left - (p.kind.size + p.cells.length + tot (p.cells.map (·.key))) else -1
end Go.Proofs.Ytnabpefjcgehiaa.Pu
/- Ascending texts: what is inserted in order is what is sorted, each once. -/
namespace Go.Proofs.Ytnabpefjcgehiaa.Pu
def lt (x y : ByteArray) : Prop := x.data.toList < y.data.toList
def putL (s : ByteArray) : List ByteArray → List ByteArray
  | [] => [s]
  | x :: r => if Op.bytesLess x.toList s.toList then x :: putL s r else if x.toList == s.toList then x :: r else s :: x :: r
def asc (l : List ByteArray) : List ByteArray := l.foldl (fun o s => putL s o) []
def dd : Option ByteArray → List ByteArray → List ByteArray
  | _, [] => []
  | none, x :: r => x :: dd (some x) r
  | some p, x :: r => if p.toList == x.toList then dd (some x) r else x :: dd (some x) r
def ofL (x : List UInt8) : ByteArray := ⟨x.toArray⟩
def sortK (l : List ByteArray) : List (List UInt8) := (l.map (·.data.toList)).mergeSort fun x y => decide (x ≤ y)
def sortB (l : List ByteArray) : List ByteArray := (sortK l).map ofL
theorem eqL {x y : ByteArray} : (x.toList == y.toList) = true ↔ x = y := by
  rw [Lib.toList_data, Lib.toList_data, beq_iff_eq]
  constructor
  · intro h; exact ByteArray.ext (Array.toList_inj.1 h)
  · rintro rfl; rfl
theorem lessL {x y : ByteArray} : Op.bytesLess x.toList y.toList = true ↔ lt x y := by
  rw [Go.Proofs.bytesLess_eq, Lib.toList_data, Lib.toList_data, decide_eq_true_eq]; rfl
theorem lt_trans' {x y z : ByteArray} (h : lt x y) (k : lt y z) : lt x z := List.lt_trans h k
theorem lt_irr {x : ByteArray} : ¬ lt x x := List.lt_irrefl _
theorem lt_asy {x y : ByteArray} (h : lt x y) (k : lt y x) : False := List.lt_asymm h k
theorem lt_tri {x y : ByteArray} (h : ¬ lt x y) (k : ¬ lt y x) : x = y :=
  ByteArray.ext (Array.toList_inj.1 (List.le_antisymm (List.not_lt.1 k) (List.not_lt.1 h)))
theorem putL_mem {s z : ByteArray} : ∀ {l : List ByteArray}, z ∈ putL s l ↔ z = s ∨ z ∈ l
  | [] => by simp [putL]
  | x :: r => by
    rw [putL]
    split
    · rw [List.mem_cons, putL_mem, List.mem_cons]
      constructor
      · rintro (h | h | h) <;> simp [h]
      · rintro (h | h | h) <;> simp [h]
    · split
      · have h : x = s := eqL.1 (by assumption)
        subst h; simp
      · simp
theorem putL_sorted {s : ByteArray} : ∀ {l : List ByteArray}, l.Pairwise lt → (putL s l).Pairwise lt
  | [], _ => by simp [putL]
  | x :: r, h => by
    rw [List.pairwise_cons] at h
    rw [putL]
    split
    · rename_i hx
      rw [List.pairwise_cons]
      refine ⟨fun z hz => ?_, putL_sorted h.2⟩
      rcases putL_mem.1 hz with rfl | hz
      · exact lessL.1 hx
      · exact h.1 z hz
    · split
      · exact List.pairwise_cons.2 h
      · rename_i hx hn
        have hs : lt s x := by
          apply Classical.byContradiction
          intro hc
          exact hn (eqL.2 (lt_tri (fun h => hx (lessL.2 h)) hc))
        rw [List.pairwise_cons]
        refine ⟨fun z hz => ?_, List.pairwise_cons.2 h⟩
        rcases List.mem_cons.1 hz with rfl | hz
        · exact hs
        · exact lt_trans' hs (h.1 z hz)
theorem putL_len (s : ByteArray) : ∀ l : List ByteArray, (putL s l).length ≤ l.length + 1
  | [] => by simp [putL]
  | x :: r => by
    rw [putL]
    have := putL_len s r
    split
    · simp; omega
    · split <;> simp
theorem ascFrom (l : List ByteArray) : ∀ o : List ByteArray, o.Pairwise lt →
    (l.foldl (fun o s => putL s o) o).Pairwise lt ∧ (∀ z, z ∈ l.foldl (fun o s => putL s o) o ↔ z ∈ o ∨ z ∈ l) ∧ (l.foldl (fun o s => putL s o) o).length ≤ o.length + l.length := by
  induction l with
  | nil => intro o ho; simp [ho]
  | cons x r ih =>
    intro o ho
    obtain ⟨h1, h2, h3⟩ := ih (putL x o) (putL_sorted ho)
    refine ⟨h1, fun z => ?_, ?_⟩
    · rw [List.foldl_cons, h2, putL_mem, List.mem_cons]
      constructor
      · rintro ((h | h) | h) <;> simp [h]
      · rintro (h | h | h) <;> simp [h]
    · rw [List.foldl_cons]
      have := putL_len x o
      simp only [List.length_cons]; omega
theorem asc_sorted (l : List ByteArray) : (asc l).Pairwise lt := (ascFrom l [] .nil).1
theorem asc_mem (l : List ByteArray) (z : ByteArray) : z ∈ asc l ↔ z ∈ l := by rw [asc, (ascFrom l [] .nil).2.1]; simp
theorem asc_len (l : List ByteArray) : (asc l).length ≤ l.length := by have := (ascFrom l [] .nil).2.2; simpa [asc] using this
theorem asc_snoc (l : List ByteArray) (x : ByteArray) : asc (l ++ [x]) = putL x (asc l) := by simp [asc]
theorem uniq : ∀ {a b : List ByteArray}, a.Pairwise lt → b.Pairwise lt → (∀ x, x ∈ a ↔ x ∈ b) → a = b
  | [], [], _, _, _ => rfl
  | [], y :: s, _, _, h => by have := (h y).2 (by simp); simp at this
  | x :: r, [], _, _, h => by have := (h x).1 (by simp); simp at this
  | x :: r, y :: s, h1, h2, h => by
    rw [List.pairwise_cons] at h1 h2
    have hxy : x = y := by
      rcases List.mem_cons.1 ((h x).1 (by simp)) with e | hx
      · exact e
      · rcases List.mem_cons.1 ((h y).2 (by simp)) with e | hy
        · exact e.symm
        · exact (lt_asy (h1.1 y hy) (h2.1 x hx)).elim
    subst hxy
    rw [uniq h1.2 h2.2 fun z => ?_]
    constructor
    · intro hz
      rcases List.mem_cons.1 ((h z).1 (List.mem_cons_of_mem _ hz)) with rfl | hz'
      · exact (lt_irr (h1.1 _ hz)).elim
      · exact hz'
    · intro hz
      rcases List.mem_cons.1 ((h z).2 (List.mem_cons_of_mem _ hz)) with rfl | hz'
      · exact (lt_irr (h2.1 _ hz)).elim
      · exact hz'
theorem dd_some : ∀ (l : List ByteArray) (p : ByteArray), (p :: l).Pairwise (fun a b => ¬ lt b a) →
    (dd (some p) l).Pairwise lt ∧ ∀ z, z ∈ dd (some p) l ↔ z ∈ l ∧ z ≠ p
  | [], p, _ => by simp [dd]
  | x :: r, p, h => by
    rw [List.pairwise_cons] at h
    obtain ⟨i1, i2⟩ := dd_some r x h.2
    have hp := h.1
    have hx := (List.pairwise_cons.1 h.2).1
    rw [dd]
    split
    · have e : p = x := eqL.1 (by assumption)
      subst e
      refine ⟨i1, fun z => ?_⟩
      rw [i2, List.mem_cons]
      constructor
      · rintro ⟨a, b⟩; exact ⟨.inr a, b⟩
      · rintro ⟨a | a, b⟩
        · exact (b a).elim
        · exact ⟨a, b⟩
    · rename_i hn
      have hne : ¬ p = x := fun e => hn (eqL.2 e)
      have hpx : lt p x := by
        apply Classical.byContradiction
        intro hc
        exact hne (lt_tri hc (hp x (by simp)))
      refine ⟨List.pairwise_cons.2 ⟨fun z hz => ?_, i1⟩, fun z => ?_⟩
      · obtain ⟨a, b⟩ := (i2 z).1 hz
        apply Classical.byContradiction
        intro hc
        exact b (lt_tri (hx z a) hc)
      · rw [List.mem_cons, i2, List.mem_cons]
        constructor
        · rintro (rfl | ⟨a, b⟩)
          · exact ⟨.inl rfl, fun e => hne e.symm⟩
          · refine ⟨.inr a, ?_⟩
            rintro rfl
            exact hx z a hpx
        · rintro ⟨a | a, b⟩
          · exact .inl a
          · by_cases e : z = x
            · exact .inl e
            · exact .inr ⟨a, e⟩
theorem dd_none (l : List ByteArray) (h : l.Pairwise (fun a b => ¬ lt b a)) : (dd none l).Pairwise lt ∧ ∀ z, z ∈ dd none l ↔ z ∈ l := by
  cases l with
  | nil => simp [dd]
  | cons x r =>
    obtain ⟨i1, i2⟩ := dd_some r x h
    have hx := (List.pairwise_cons.1 h).1
    rw [dd]
    refine ⟨List.pairwise_cons.2 ⟨fun z hz => ?_, i1⟩, fun z => ?_⟩
    · obtain ⟨a, b⟩ := (i2 z).1 hz
      apply Classical.byContradiction
      intro hc
      exact b (lt_tri (hx z a) hc)
    · rw [List.mem_cons, i2, List.mem_cons]
      constructor
      · rintro (a | ⟨a, _⟩) <;> simp [a]
      · rintro (a | a)
        · exact .inl a
        · by_cases e : z = x
          · exact .inl e
          · exact .inr ⟨a, e⟩
theorem sortK_len (l : List ByteArray) : (sortK l).length = l.length := by simp [sortK]
theorem sortB_len (l : List ByteArray) : (sortB l).length = l.length := by simp [sortB, sortK_len]
theorem sortB_sorted (l : List ByteArray) : (sortB l).Pairwise (fun a b => ¬ lt b a) := by
  have h := List.pairwise_mergeSort (le := fun x y : List UInt8 => decide (x ≤ y)) (fun a b c h1 h2 => by simp only [decide_eq_true_eq] at *; exact List.le_trans h1 h2) (fun a b => by simp only [Bool.or_eq_true, decide_eq_true_eq]; exact List.le_total a b) (l.map (·.data.toList))
  rw [sortB, List.pairwise_map]
  exact h.imp (fun {a b} h => by rw [decide_eq_true_eq] at h; exact fun hc => (List.not_lt.2 h) hc)
theorem sortB_mem (l : List ByteArray) (z : ByteArray) : z ∈ sortB l ↔ z ∈ l := by
  have hp := List.mergeSort_perm (l.map (·.data.toList)) fun x y => decide (x ≤ y)
  rw [sortB, List.mem_map]
  constructor
  · rintro ⟨a, ha, rfl⟩
    obtain ⟨b, hb, rfl⟩ := List.mem_map.1 (hp.mem_iff.1 ha)
    exact hb
  · intro hz
    exact ⟨z.data.toList, hp.mem_iff.2 (List.mem_map.2 ⟨z, hz, rfl⟩), rfl⟩
theorem dd_sort (l : List ByteArray) : dd none (sortB l) = asc l := by
  obtain ⟨h1, h2⟩ := dd_none (sortB l) (sortB_sorted l)
  exact uniq h1 (asc_sorted l) fun z => by rw [h2, sortB_mem, asc_mem]
end Go.Proofs.Ytnabpefjcgehiaa.Pu
/- Cells found and put, in plain Lean. -/
namespace Go.Proofs.Ytnabpefjcgehiaa.Pu
def lessB (a b : ByteArray) : Bool := Op.bytesLess a.toList b.toList
theorem lessB_iff {a b : ByteArray} : lessB a b = true ↔ lt a b := lessL
theorem lessB_trans {a b c : ByteArray} (h : lessB a b = true) (k : lessB b c = true) : lessB a c = true := lessB_iff.2 (lt_trans' (lessB_iff.1 h) (lessB_iff.1 k))
theorem lessB_irr (a : ByteArray) : lessB a a = false := by
  rw [Bool.eq_false_iff]
  intro h
  exact lt_irr (lessB_iff.1 h)
theorem lessB_tri {a b : ByteArray} (h : lessB a b = false) (hn : (a.toList == b.toList) = false) : lessB b a = true := by
  rcases hk : lessB b a with _ | _
  · exfalso
    have h1 : ¬ lt a b := fun x => by rw [lessB_iff.2 x] at h; cases h
    have h2 : ¬ lt b a := fun x => by rw [lessB_iff.2 x] at hk; cases hk
    rw [eqL.2 (lt_tri h1 h2)] at hn
    cases hn
  · rfl
theorem less_ne {a b : ByteArray} (h : lessB a b = true) : (a.toList == b.toList) = false := by
  rw [Bool.eq_false_iff]
  intro hc
  rw [eqL.1 hc, lessB_irr] at h
  cases h
theorem less_asy {a b : ByteArray} (h : lessB a b = true) : lessB b a = false := by
  rw [Bool.eq_false_iff]
  intro hc
  have := lessB_trans h hc
  rw [lessB_irr] at this
  cases this
/-- counted up -/
def upF (n : Int) : Int := if 999 ≤ n then n else n + 1
def lowN (k : ByteArray) : List CellD → Nat
  | [] => 0
  | c :: r => if lessB c.key k then lowN k r + 1 else 0
def hit (k : ByteArray) : List CellD → Bool
  | [] => false
  | c :: r => if lessB c.key k then hit k r else c.key.toList == k.toList
def getV (k : ByteArray) : List CellD → Int
  | [] => 0
  | c :: r => if lessB c.key k then getV k r else c.val
def putC (k : ByteArray) (v : Int) : List CellD → List CellD
  | [] => [⟨k, v⟩]
  | c :: r => if lessB c.key k then c :: putC k v r else if c.key.toList == k.toList then ⟨k, v⟩ :: r else ⟨k, v⟩ :: c :: r
theorem lowN_le (k : ByteArray) : ∀ l, lowN k l ≤ l.length
  | [] => Nat.le_refl _
  | c :: r => by
    have := lowN_le k r
    rw [lowN]; split <;> simp; omega
theorem lowN_less (k : ByteArray) : ∀ (l : List CellD) (i : Nat) (c : CellD), i < lowN k l → l[i]? = some c → lessB c.key k = true
  | [], _, _, _, h => by simp at h
  | x :: r, i, c, hi, h => by
    rw [lowN] at hi
    split at hi
    · rcases i with _ | i
      · simp at h; subst h; assumption
      · exact lowN_less k r i c (by omega) (by simpa using h)
    · omega
theorem lowN_at (k : ByteArray) : ∀ (l : List CellD) (c : CellD), l[lowN k l]? = some c → lessB c.key k = false ∧ hit k l = (c.key.toList == k.toList) ∧ getV k l = c.val
  | [], _, h => by simp at h
  | x :: r, c, h => by
    rw [lowN] at h
    rw [hit, getV]
    split at h
    · rename_i hx
      rw [if_pos hx, if_pos hx]
      exact lowN_at k r c (by simpa using h)
    · rename_i hx
      rw [if_neg hx, if_neg hx]
      simp at h; subst h
      exact ⟨by simpa using hx, rfl, rfl⟩
theorem lowN_end (k : ByteArray) : ∀ (l : List CellD), l.length ≤ lowN k l → hit k l = false
  | [], _ => rfl
  | x :: r, h => by
    rw [lowN] at h
    rw [hit]
    split at h
    · rename_i hx
      rw [if_pos hx]
      exact lowN_end k r (by simpa using h)
    · simp at h
theorem putC_low (k : ByteArray) (v : Int) : ∀ l : List CellD, putC k v l = l.take (lowN k l) ++ ⟨k, v⟩ :: l.drop (lowN k l + if hit k l then 1 else 0)
  | [] => rfl
  | c :: r => by
    have ih := putC_low k v r
    rw [putC, lowN, hit]
    split
    · rw [ih, List.take_succ_cons, List.cons_append, show lowN k r + 1 + (if hit k r = true then 1 else 0) = (lowN k r + (if hit k r = true then 1 else 0)) + 1 by omega, List.drop_succ_cons]
    · split <;> simp
theorem putC_set {k : ByteArray} {v : Int} : ∀ {l : List CellD}, hit k l = true → putC k v l = l.set (lowN k l) ⟨k, v⟩
  | [], h => by cases h
  | c :: r, h => by
    rw [hit] at h
    rw [putC, lowN]
    split at h
    · rename_i hx
      rw [if_pos hx, if_pos hx, putC_set h, List.set_cons_succ]
    · rename_i hx
      rw [if_neg hx, if_neg hx, if_pos h, List.set_cons_zero]
theorem putC_len (k : ByteArray) (v : Int) : ∀ l : List CellD, (putC k v l).length = l.length + if hit k l then 0 else 1
  | [] => rfl
  | c :: r => by
    have ih := putC_len k v r
    rw [putC, hit]
    split
    · rw [List.length_cons, ih, List.length_cons]; omega
    · split <;> simp
/-! ## Ascending cells -/
def okP (p : Option ByteArray) (k : ByteArray) : Prop := keyB p k = true
theorem cells_cons {p : Option ByteArray} {c : CellD} {r : List CellD} : cellsFrom p (c :: r) = true ↔ nameL c.key.toList = true ∧ isNum c.val = true ∧ keyB p c.key = true ∧ cellsFrom (some c.key) r = true := by
  simp only [cellsFrom, Bool.and_eq_true]
  constructor
  · rintro ⟨⟨⟨a, b⟩, c⟩, d⟩; exact ⟨a, b, c, d⟩
  · rintro ⟨a, b, c, d⟩; exact ⟨⟨⟨a, b⟩, c⟩, d⟩
theorem keyB_some {a b : ByteArray} : keyB (some a) b = lessB a b := rfl
theorem cells_weaken {a b : ByteArray} (h : lessB a b = true) : ∀ {l : List CellD}, cellsFrom (some b) l = true → cellsFrom (some a) l = true
  | [], _ => rfl
  | c :: r, hl => by
    rw [cells_cons] at hl ⊢
    exact ⟨hl.1, hl.2.1, by rw [keyB_some] at *; exact lessB_trans h hl.2.2.1, hl.2.2.2⟩
theorem putC_ok {k : ByteArray} {v : Int} (hk : nameL k.toList = true) (hv : isNum v = true) : ∀ {l : List CellD} {p : Option ByteArray}, cellsFrom p l = true → keyB p k = true → cellsFrom p (putC k v l) = true
  | [], p, _, hp => by
    rw [putC, cells_cons]
    exact ⟨hk, hv, hp, rfl⟩
  | c :: r, p, h, hp => by
    rw [cells_cons] at h
    rw [putC]
    split
    · rename_i hx
      rw [cells_cons]
      exact ⟨h.1, h.2.1, h.2.2.1, putC_ok hk hv h.2.2.2 (by rw [keyB_some]; exact hx)⟩
    · rename_i hx
      split
      · rename_i he
        rw [cells_cons]
        refine ⟨hk, hv, hp, ?_⟩
        show cellsFrom (some k) r = true
        rw [← eqL.1 he]
        exact h.2.2.2
      · rename_i he
        rw [cells_cons]
        refine ⟨hk, hv, hp, ?_⟩
        rw [cells_cons]
        exact ⟨h.1, h.2.1, by rw [keyB_some]; exact lessB_tri (by simpa using hx) (by simpa using he), h.2.2.2⟩
/-- behind a greater key nothing is found -/
theorem hit_none {k : ByteArray} : ∀ {l : List CellD} {a : ByteArray}, cellsFrom (some a) l = true → (lessB k a = true ∨ k = a) → hit k l = false ∧ (∀ c ∈ l, (c.key.toList == k.toList) = false ∧ lessB c.key k = false)
  | [], _, _, _ => ⟨rfl, fun _ h => by cases h⟩
  | c :: r, a, h, hk => by
    rw [cells_cons, keyB_some] at h
    have h1 : lessB k c.key = true := by
      rcases hk with hk | rfl
      · exact lessB_trans hk h.2.2.1
      · exact h.2.2.1
    have h2 := less_asy h1
    have h3 : (c.key.toList == k.toList) = false := by
      have := less_ne h1
      rw [Bool.eq_false_iff] at this ⊢
      intro e
      exact this (eqL.2 (eqL.1 e).symm)
    have h4 := hit_none (k := k) h.2.2.2 (.inl h1)
    refine ⟨by rw [hit, h2]; simpa using h3, fun x hx => ?_⟩
    rcases List.mem_cons.1 hx with rfl | hx
    · exact ⟨h3, h2⟩
    · exact h4.2 x hx
/-- the reference's search: the first equal key's place -/
def at3 (k : ByteArray) : Nat → List CellD → Int
  | _, [] => -1
  | i, c :: r => if c.key.toList == k.toList then (i : Int) else at3 k (i + 1) r
theorem at3_none {k : ByteArray} : ∀ {l : List CellD} (i : Nat), (∀ c ∈ l, (c.key.toList == k.toList) = false) → at3 k i l = -1
  | [], _, _ => rfl
  | c :: r, i, h => by
    rw [at3, if_neg (by rw [h c (by simp)]; exact Bool.noConfusion)]
    exact at3_none (i + 1) fun x hx => h x (by simp [hx])
theorem at3_low {k : ByteArray} : ∀ {l : List CellD} {p : Option ByteArray} (i : Nat), cellsFrom p l = true → at3 k i l = if hit k l then ((i + lowN k l : Nat) : Int) else -1
  | [], _, _, _ => rfl
  | c :: r, p, i, h => by
    rw [cells_cons] at h
    rw [at3, hit, lowN]
    by_cases hx : lessB c.key k = true
    · rw [if_pos hx, if_pos hx, if_neg (by rw [less_ne hx]; exact Bool.noConfusion), at3_low (i + 1) h.2.2.2, show i + 1 + lowN k r = i + (lowN k r + 1) by omega]
    · rw [if_neg hx, if_neg hx]
      by_cases he : (c.key.toList == k.toList) = true
      · rw [if_pos he, if_pos he]; rfl
      · rw [if_neg he, if_neg he]
        have h1 := lessB_tri (by simpa using hx) (by simpa using he)
        exact at3_none (i + 1) fun x hx => ((hit_none h.2.2.2 (.inl h1)).2 x hx).1
/-- the reference's putting -/
def put3 (k : ByteArray) (v : Int) : Bool → List CellD → List CellD
  | d, [] => if d then [] else [⟨k, v⟩]
  | d, c :: r => (if !d && !lessB c.key k then [⟨k, v⟩] else []) ++ ((if c.key.toList == k.toList then [] else [c]) ++ put3 k v (d || !lessB c.key k) r)
theorem put3_done {k : ByteArray} {v : Int} : ∀ {l : List CellD}, (∀ c ∈ l, (c.key.toList == k.toList) = false) → put3 k v true l = l
  | [], _ => rfl
  | c :: r, h => by
    rw [put3, h c (by simp)]
    simp
    exact put3_done fun x hx => h x (by simp [hx])
theorem put3_eq {k : ByteArray} {v : Int} : ∀ {l : List CellD} {p : Option ByteArray}, cellsFrom p l = true → put3 k v false l = putC k v l
  | [], _, _ => rfl
  | c :: r, p, h => by
    rw [cells_cons] at h
    rw [put3, putC]
    by_cases hx : lessB c.key k = true
    · rw [if_pos hx, hx, less_ne hx]
      simp
      exact put3_eq h.2.2.2
    · have hx' : lessB c.key k = false := by simpa using hx
      rw [if_neg hx, hx']
      by_cases he : (c.key.toList == k.toList) = true
      · rw [if_pos he, if_pos he]
        have := put3_done (k := k) (v := v) (l := r) fun x hx => ((hit_none (k := k) h.2.2.2 (.inr (eqL.1 he).symm)).2 x hx).1
        simp [this]
      · rw [if_neg he, if_neg he]
        have h1 := lessB_tri hx' (by simpa using he)
        have := put3_done (k := k) (v := v) (l := r) fun x hx => ((hit_none h.2.2.2 (.inl h1)).2 x hx).1
        simp [this]
/-! ## What is put is got -/
theorem get_put {k : ByteArray} {v : Int} : ∀ {l : List CellD}, hit k (putC k v l) = true ∧ getV k (putC k v l) = v
  | [] => by rw [putC, hit, getV, lessB_irr]; simp
  | c :: r => by
    rw [putC]
    split
    · rename_i hx
      rw [hit, getV, if_pos hx, if_pos hx]
      exact get_put
    · split
      · rw [hit, getV, lessB_irr]; simp
      · rw [hit, getV, lessB_irr]; simp
theorem get_other {k j : ByteArray} {v : Int} (hne : (j.toList == k.toList) = false) : ∀ {l : List CellD} {p : Option ByteArray}, cellsFrom p l = true → hit j (putC k v l) = hit j l ∧ (hit j l = true → getV j (putC k v l) = getV j l)
  | [], _, _ => by
    have hkj : (k.toList == j.toList) = false := by
      rw [Bool.eq_false_iff] at hne ⊢
      exact fun e => hne (eqL.2 (eqL.1 e).symm)
    rw [putC, hit, hit]
    refine ⟨by split <;> simp_all [hit], fun h => by simp at h⟩
  | c :: r, p, h => by
    have hkj : (k.toList == j.toList) = false := by
      rw [Bool.eq_false_iff] at hne ⊢
      exact fun e => hne (eqL.2 (eqL.1 e).symm)
    rw [cells_cons] at h
    rw [putC]
    by_cases hx : lessB c.key k = true
    · rw [if_pos hx, hit, hit, getV, getV]
      by_cases hj : lessB c.key j = true
      · simp only [hj, if_true]
        exact get_other hne h.2.2.2
      · simp only [hj]
        exact ⟨rfl, fun _ => rfl⟩
    · have hx' : lessB c.key k = false := by simpa using hx
      rw [if_neg hx]
      by_cases he : (c.key.toList == k.toList) = true
      · have hck := eqL.1 he
        rw [if_pos he, hit, hit, getV, getV, hck]
        by_cases hj : lessB k j = true
        · simp only [hj, if_true]
          exact ⟨trivial, fun _ => trivial⟩
        · simp only [hj]
          simp [hkj]
      · rw [if_neg he]
        have h1 := lessB_tri hx' (by simpa using he)
        rw [hit.eq_2 j ⟨k, v⟩, getV.eq_2 j ⟨k, v⟩]
        by_cases hj : lessB k j = true
        · simp only [hj, if_true]
          exact ⟨trivial, fun _ => trivial⟩
        · have hj' : lessB k j = false := by simpa using hj
          have h2 := lessB_tri hj' hkj
          have h3 : hit j (c :: r) = false := (hit_none (k := j) (l := c :: r) (a := k) (by rw [cells_cons]; exact ⟨h.1, h.2.1, by rw [keyB_some]; exact h1, h.2.2.2⟩) (.inl h2)).1
          simp [hj', h3, hkj]
end Go.Proofs.Ytnabpefjcgehiaa.Pu
/- Contracts of the laws' own helpers: cells. -/
namespace Go.Proofs.Ytnabpefjcgehiaa
open Go.ChangeShapes Go.WideShapes Go.ChangeAt Go.RowKit
set_option maxRecDepth 100000
theorem info_cell : (Try.prog.info? 74).map (fun i => (i.zero, i.size, i.bytes)) = some (some (.agg #[.string ByteArray.empty, .int .i64 0]), 2, 24) := by kernel_rfl
end Go.Proofs.Ytnabpefjcgehiaa
/- Contracts: counting up; cells found and put. -/
namespace Go.Proofs.Ytnabpefjcgehiaa
open Go.ChangeShapes Go.WideShapes Go.ChangeAt Go.RowKit
set_option maxRecDepth 100000
theorem one_cellO (x : Pu.CellD) : ∀ u ∈ cellEn x, u.oneCell' = true := by simp [cellEn, Value.oneCell']
theorem l3At_c (v : Value) (l : List Pu.CellD) (key : ByteArray) (w : World) (hv : RdL w 2 cellEn v l) :
    Calls Try.prog 66 #[v, .string key] w fun e w' => e = .returned (.int .i64 (Pu.at3 key 0 l)) ∧ Below w.heap.size w w' := by
  obtain ⟨A, c, rfl, hlc, hcm, hA⟩ := hv.open_
  have HA := hide hA
  clear hA hv
  go_enter Try.func66, Try.ntmps66
  go_wp2
  go_loopw [9] (fun i wr => ∃ k : Nat, k ≤ l.length ∧ i = .int .i64 k ∧ Hid (Pu.at3 key 0 l = Pu.at3 key k (l.drop k)) ∧ Below w.heap.size w wr) (fun i _ => l.length - (intOf i).toNat)
  case atStart => exact ⟨0, by omega, rfl, rfl, Below.refl _ _⟩
  case round =>
    obtain ⟨k, hk, rfl, HB, hb⟩ := hrel
    by_cases hlt : k < l.length
    · obtain ⟨g, o, rfl, hg, HC⟩ := HA.out.at_ (by omega)
      obtain ⟨x, HX, c0, c1⟩ := cell_get HC hb hlt
      have HD := hide (dropL HX)
      rcases hq : (x.key.toList == key.toList) with _ | _
      · have HN : Hid (Pu.at3 key 0 l = Pu.at3 key (k + 1) (l.drop (k + 1))) := by rw [Hid, HB.out, HD.out, Pu.at3, if_neg (by rw [hq]; exact Bool.noConfusion)]
        go_wp2
        go_roundw
        case rel => exact ⟨k + 1, by omega, by go_num, HN, below_alloc hb _⟩
        case measure => simp [intOf]; omega
      · have HN : Hid (Pu.at3 key 0 l = (k : Int)) := by rw [Hid, HB.out, HD.out, Pu.at3, if_pos hq]
        go_wp2
        go_ret
        exact ⟨ret_int HN.out.symm, below_alloc hb _⟩
    · have HE := hide (dropEnd (l := l) (k := k) (by omega))
      go_wp2
      go_ret
      exact ⟨ret_int (by rw [HB.out, HE.out]; rfl), hb⟩
set_option maxHeartbeats 2000000 in
theorem l3Put_c (v : Value) (l : List Pu.CellD) (key : ByteArray) (n : Int) (w : World) (hv : RdL w 2 cellEn v l) (hl : l.length ≤ 1048576) :
    Calls Try.prog 67 #[v, .string key, .int .i64 n] w fun e w' => ∃ v', e = .returned v' ∧ OwnL w' w.heap.size 74 2 cellEn v' (Pu.put3 key n false l) ∧ Below w.heap.size w w' := by
  obtain ⟨i0, hi, hz0, hz1, hz2⟩ := info_parts info_cell
  obtain ⟨A, c, rfl, hlc, hcm, hA⟩ := hv.open_
  have HA := hide hA
  clear hA hv
  go_enter Try.func67, Try.ntmps67
  go_wp2
  go_loopw [7, 8, 14] (fun u d i wr => ∃ (k : Nat) (o : List Pu.CellD) (q : Bool), k ≤ l.length ∧ i = .int .i64 k ∧ d = .bool q ∧ o.length ≤ 2 * k ∧ Hid (Pu.put3 key n false l = o ++ Pu.put3 key n q (l.drop k)) ∧ OwnL wr w.heap.size 74 2 cellEn u o ∧ Below w.heap.size w wr) (fun _ _ i _ => l.length - (intOf i).toNat)
  case atStart => exact ⟨0, [], false, by omega, rfl, rfl, by simp, rfl, World.ownsRow_made w #[] 0 (Nat.le_refl _) (Nat.zero_le _) (by simp), below_alloc (Below.refl _ _) _⟩
  case round =>
    obtain ⟨k, o, q, hk, rfl, rfl, hok, HP, hown, hb⟩ := hrel
    by_cases hlt : k < l.length
    · obtain ⟨g, p, rfl, hg, HC⟩ := HA.out.at_ (by omega)
      obtain ⟨x, HX, c0, c1⟩ := cell_get HC hb hlt
      have HD := hide (dropL HX)
      have HNE := hide (fun g (hg : _ = some g) => (OwnL.lt hown (g := g) hg).2)
      have bA : Below wr.heap.size wr (wr.alloc (.cells #[.string x.key, .int .i64 x.val] 74 : Obj)) := below_alloc (Below.refl _ _) _
      have hbA : Below w.heap.size w (wr.alloc (.cells #[.string x.key, .int .i64 x.val] 74 : Obj)) := below_then hb bA
      have hownA := hown.below bA (Nat.le_refl _)
      have HSA : Hid ((wr.alloc (.cells #[.string x.key, .int .i64 x.val] 74 : Obj)).heap.size = wr.heap.size + 1) := by rw [Hid]; simp
      have Y0 := hide (show (wr.alloc (.cells #[.string x.key, .int .i64 x.val] 74 : Obj)).heap[wr.heap.size]? = some (.cells #[.string x.key, .int .i64 x.val] 74 : Obj) from heap_new rfl)
      have y0 := hide (cell_of_row (wr.alloc (.cells #[.string x.key, .int .i64 x.val] 74 : Obj)) wr.heap.size 0 _ _ (0, 0) Y0.out)
      have y1 := hide (cell_of_row (wr.alloc (.cells #[.string x.key, .int .i64 x.val] 74 : Obj)) wr.heap.size 1 _ _ (0, 0) Y0.out)
      have hLA : wr.heap.size < (wr.alloc (.cells #[.string x.key, .int .i64 x.val] 74 : Obj)).heap.size := by simp
      clear hown hb bA
      rcases q with _ | _
      · have HP : Hid (Pu.put3 key n false l = o ++ Pu.put3 key n false (l.drop k)) := HP
        rcases hq : Op.bytesLess x.key.toList key.toList with _ | _
        · have hq' : Pu.lessB x.key key = false := hq
          rcases he : (x.key.toList == key.toList) with _ | _
          · have HN : Hid (Pu.put3 key n false l = o ++ [⟨key, n⟩] ++ [⟨x.key, x.val⟩] ++ Pu.put3 key n true (l.drop (k + 1))) := by rw [Hid, HP.out, HD.out, Pu.put3, hq', he]; simp
            go_wp2_with (first | (have _second := hown1; at_builtin; go_must (refine push_law rfl _ _ 26 (by exact rfl) w.heap.size 74 i0 (.agg #[.string ByteArray.empty, .int .i64 0]) 2 24 Try.underlying26 hi hz0 hz1 hz2 rfl (by decide) cellEn _ _ (⟨x.key, x.val⟩ : Pu.CellD) (by exact rfl) hown1 (by exact rfl) rfl (one_cellO _) hb1 (Nat.le_refl _) hb1.size (by simp; omega) (by decide) ?_); intro v2 w2 hown2 hg2 hb2) | (at_builtin; go_must (refine push_law rfl _ _ 26 (by exact rfl) w.heap.size 74 i0 (.agg #[.string ByteArray.empty, .int .i64 0]) 2 24 Try.underlying26 hi hz0 hz1 hz2 rfl (by decide) cellEn _ _ (⟨key, n⟩ : Pu.CellD) (by exact rfl) hownA (by first | exact rfl | (rw [HSA.out]; exact rfl)) rfl (one_cellO _) hbA (Nat.le_refl _) hbA.size (by omega) (by decide) ?_); intro v1 w1 hown1 hg1 hb1; have z0 : w1.cell? ⟨wr.heap.size, 0, none⟩ = some (.string x.key) := (World.cell?_of_block (a := ⟨wr.heap.size, 0, none⟩) (hg1.block wr.heap.size (by simp; omega) (fun e => absurd (HNE.out _ e.symm) (Nat.lt_irrefl _)))).trans ((below_alloc (Below.refl _ _) _).cell (p := ⟨wr.heap.size, 0, none⟩) hLA |>.trans y0.out); have z1 : w1.cell? ⟨wr.heap.size, 1, none⟩ = some (.int .i64 x.val) := (World.cell?_of_block (a := ⟨wr.heap.size, 1, none⟩) (hg1.block wr.heap.size (by simp; omega) (fun e => absurd (HNE.out _ e.symm) (Nat.lt_irrefl _)))).trans ((below_alloc (Below.refl _ _) _).cell (p := ⟨wr.heap.size, 1, none⟩) hLA |>.trans y1.out)))
            go_roundw
            case rel => exact ⟨k + 1, _, true, by omega, by go_num, rfl, by simp; omega, HN, hown2, hb2⟩
            case measure => simp [intOf]; omega
          · have HN : Hid (Pu.put3 key n false l = o ++ [⟨key, n⟩] ++ Pu.put3 key n true (l.drop (k + 1))) := by rw [Hid, HP.out, HD.out, Pu.put3, hq', he]; simp
            go_wp2_with (at_builtin; go_must (refine push_law rfl _ _ 26 (by exact rfl) w.heap.size 74 i0 (.agg #[.string ByteArray.empty, .int .i64 0]) 2 24 Try.underlying26 hi hz0 hz1 hz2 rfl (by decide) cellEn _ _ (⟨key, n⟩ : Pu.CellD) (by exact rfl) hownA (by first | exact rfl | (rw [HSA.out]; exact rfl)) rfl (one_cellO _) hbA (Nat.le_refl _) hbA.size (by omega) (by decide) ?_); intro v1 w1 hown1 hg1 hb1; have z0 : w1.cell? ⟨wr.heap.size, 0, none⟩ = some (.string x.key) := (World.cell?_of_block (a := ⟨wr.heap.size, 0, none⟩) (hg1.block wr.heap.size (by simp; omega) (fun e => absurd (HNE.out _ e.symm) (Nat.lt_irrefl _)))).trans ((below_alloc (Below.refl _ _) _).cell (p := ⟨wr.heap.size, 0, none⟩) hLA |>.trans y0.out); have z1 : w1.cell? ⟨wr.heap.size, 1, none⟩ = some (.int .i64 x.val) := (World.cell?_of_block (a := ⟨wr.heap.size, 1, none⟩) (hg1.block wr.heap.size (by simp; omega) (fun e => absurd (HNE.out _ e.symm) (Nat.lt_irrefl _)))).trans ((below_alloc (Below.refl _ _) _).cell (p := ⟨wr.heap.size, 1, none⟩) hLA |>.trans y1.out))
            go_roundw
            case rel => exact ⟨k + 1, _, true, by omega, by go_num, rfl, by simp; omega, HN, hown1, hb1⟩
            case measure => simp [intOf]; omega
        · have hq' : Pu.lessB x.key key = true := hq
          have he := Pu.less_ne hq'
          have HN : Hid (Pu.put3 key n false l = o ++ [⟨x.key, x.val⟩] ++ Pu.put3 key n false (l.drop (k + 1))) := by rw [Hid, HP.out, HD.out, Pu.put3, hq', he]; simp
          go_wp2_with (at_builtin; go_must (refine push_law rfl _ _ 26 (by exact rfl) w.heap.size 74 i0 (.agg #[.string ByteArray.empty, .int .i64 0]) 2 24 Try.underlying26 hi hz0 hz1 hz2 rfl (by decide) cellEn _ _ (⟨x.key, x.val⟩ : Pu.CellD) (by exact rfl) hownA (by first | exact rfl | (rw [HSA.out]; exact rfl)) rfl (one_cellO _) hbA (Nat.le_refl _) hbA.size (by omega) (by decide) ?_); intro v2 w2 hown2 hg2 hb2)
          go_roundw
          case rel => exact ⟨k + 1, _, false, by omega, by go_num, rfl, by simp; omega, HN, hown2, hb2⟩
          case measure => simp [intOf]; omega
      · have HP : Hid (Pu.put3 key n false l = o ++ Pu.put3 key n true (l.drop k)) := HP
        rcases he : (x.key.toList == key.toList) with _ | _
        · have HN : Hid (Pu.put3 key n false l = o ++ [⟨x.key, x.val⟩] ++ Pu.put3 key n true (l.drop (k + 1))) := by rw [Hid, HP.out, HD.out, Pu.put3, he]; simp
          go_wp2_with (at_builtin; go_must (refine push_law rfl _ _ 26 (by exact rfl) w.heap.size 74 i0 (.agg #[.string ByteArray.empty, .int .i64 0]) 2 24 Try.underlying26 hi hz0 hz1 hz2 rfl (by decide) cellEn _ _ (⟨x.key, x.val⟩ : Pu.CellD) (by exact rfl) hownA (by first | exact rfl | (rw [HSA.out]; exact rfl)) rfl (one_cellO _) hbA (Nat.le_refl _) hbA.size (by omega) (by decide) ?_); intro v2 w2 hown2 hg2 hb2)
          go_roundw
          case rel => exact ⟨k + 1, _, true, by omega, by go_num, rfl, by simp; omega, HN, hown2, hb2⟩
          case measure => simp [intOf]; omega
        · have HN : Hid (Pu.put3 key n false l = o ++ Pu.put3 key n true (l.drop (k + 1))) := by rw [Hid, HP.out, HD.out, Pu.put3, he]; simp
          go_wp2
          go_roundw
          case rel => exact ⟨k + 1, _, true, by omega, by go_num, rfl, by omega, HN, hownA, hbA⟩
          case measure => simp [intOf]; omega
    · have HE := hide (dropEnd (l := l) (k := k) (by omega))
      rcases q with _ | _
      · have HN : Hid (Pu.put3 key n false l = o ++ [⟨key, n⟩]) := by rw [Hid, HP.out, HE.out]; rfl
        go_wp2_with (at_builtin; go_must (refine push_law rfl _ _ 26 (by exact rfl) w.heap.size 74 i0 (.agg #[.string ByteArray.empty, .int .i64 0]) 2 24 Try.underlying26 hi hz0 hz1 hz2 rfl (by decide) cellEn _ _ (⟨key, n⟩ : Pu.CellD) (by exact rfl) hown (by exact rfl) rfl (one_cellO _) hb (Nat.le_refl _) hb.size (by omega) (by decide) ?_); intro v1 w1 hown1 hg1 hb1)
        go_ret
        exact ⟨_, rfl, by rw [HN.out]; exact hown1, hb1⟩
      · have HN : Hid (Pu.put3 key n false l = o) := by rw [Hid, HP.out, HE.out]; simp [Pu.put3]
        go_wp2
        go_ret
        exact ⟨_, rfl, by rw [HN.out]; exact hown, hb⟩
end Go.Proofs.Ytnabpefjcgehiaa
/- Contracts: kinds. -/
namespace Go.Proofs.Ytnabpefjcgehiaa
open Go.ChangeShapes Go.WideShapes Go.ChangeAt Go.RowKit
set_option maxRecDepth 100000
theorem iKindFace_c (s : ByteArray) (w : World) :
    Calls Try.prog 40 #[.string s] w fun e w' => e = .returned (.tuple #[.int .i64 (Pu.kindF s.toList), .bool (Pu.kindOk s.toList)]) ∧ w = w' := by
  go_enter Try.func40, Try.ntmps40
  go_wp2
  all_goals
    go_ret2
    exact ⟨ret_int_bool (by simp [Pu.kindF, Pu.kinds, Pu.look, *]) (by simp [Pu.kindOk, Pu.kinds, Pu.look, *]), rfl⟩
set_option maxHeartbeats 1000000 in
theorem sKindFace_c (s : ByteArray) (w : World) :
    Calls Try.prog 59 #[.string s] w fun e w' => e = .returned (.tuple #[.int .i64 (Pu.kindF s.toList), .bool (Pu.kindOk s.toList)]) ∧ Below w.heap.size w w' := by
  go_enter Try.func59, Try.ntmps59
  go_wp2
  go_loop [8] (fun i => ∃ k : Nat, k ≤ 8 ∧ i = .int .i64 k ∧ Hid (Pu.look Pu.kinds s.toList = Pu.look (Pu.kinds.drop k) s.toList)) (fun i => 8 - (intOf i).toNat)
  case atStart => exact ⟨0, by omega, rfl, rfl⟩
  case round =>
    obtain ⟨k, hk, rfl, HA⟩ := hrel
    by_cases hk8 : k < 8
    · obtain rfl | rfl | rfl | rfl | rfl | rfl | rfl | rfl : k = 0 ∨ k = 1 ∨ k = 2 ∨ k = 3 ∨ k = 4 ∨ k = 5 ∨ k = 6 ∨ k = 7 := by omega
      all_goals
        go_wp2
        all_goals first
          | (go_ret2
             have hx := Pu.kind_of (HA.out.trans (Pu.look_hit (by assumption)))
             exact ⟨ret_int_bool hx.1 hx.2, below_alloc (below_alloc (Below.refl _ _) _) _⟩)
          | (go_round
             case rel => first | exact ⟨1, by omega, rfl, HA.out.trans (Pu.look_miss (by assumption))⟩ | exact ⟨2, by omega, rfl, HA.out.trans (Pu.look_miss (by assumption))⟩ | exact ⟨3, by omega, rfl, HA.out.trans (Pu.look_miss (by assumption))⟩ | exact ⟨4, by omega, rfl, HA.out.trans (Pu.look_miss (by assumption))⟩ | exact ⟨5, by omega, rfl, HA.out.trans (Pu.look_miss (by assumption))⟩ | exact ⟨6, by omega, rfl, HA.out.trans (Pu.look_miss (by assumption))⟩ | exact ⟨7, by omega, rfl, HA.out.trans (Pu.look_miss (by assumption))⟩ | exact ⟨8, by omega, rfl, HA.out.trans (Pu.look_miss (by assumption))⟩
             case measure => simp [intOf])
    · obtain rfl : k = 8 := by omega
      go_wp2
      go_ret2
      have hx := Pu.kind_none HA.out
      exact ⟨ret_int_bool hx.1 hx.2, below_alloc (Below.refl _ _) _⟩
end Go.Proofs.Ytnabpefjcgehiaa
/- Contracts: names. -/
namespace Go.Proofs.Ytnabpefjcgehiaa
open Go.ChangeShapes Go.WideShapes Go.ChangeAt Go.RowKit
set_option maxRecDepth 100000
theorem l1Letter_c (b : Int) (first : Bool) (w : World) :
    Calls Try.prog 72 #[.int .u8 b, .bool first] w fun e w' => e = .returned (.bool (Pu.letterI b first)) ∧ w = w' := by
  cases first
  all_goals
    go_enter Try.func72, Try.ntmps72
    go_wp2
    all_goals go_ret
    all_goals (refine ⟨ret_bool ?_, rfl⟩; rw [Bool.eq_iff_iff]; simp [Pu.letterI]; try omega)

theorem sIsName_c (s : ByteArray) (w : World) (hs : s.size ≤ maxLen) :
    Calls Try.prog 71 #[.string s] w fun e w' => e = .returned (.bool (Pu.nameL s.toList)) ∧ w = w' := by
  unfold maxLen at hs
  have HL := hide (lenB s)
  go_enter Try.func71, Try.ntmps71
  go_wp2_with fail
  go_loop [3] (fun i => ∃ k : Nat, k ≤ s.size ∧ i = .int .i64 k ∧ Hid (Pu.lettersF true s.toList = Pu.lettersF ((k : Int) == 0) (s.toList.drop k))) (fun i => s.size - (intOf i).toNat)
  case atStart => exact ⟨0, by omega, rfl, rfl⟩
  case round =>
    obtain ⟨k, hk, rfl, HA⟩ := hrel
    by_cases hlt : k < s.size
    · have HD := hide (dropB hlt)
      have HZ : Hid (((k : Int) + 1 == 0) = false) := by rw [Hid, beq_eq_false_iff_ne]; omega
      go_wp2_with (go_at_call 72; refine (l1Letter_c _ _ _).mono ?_; rintro e w' ⟨rfl, rfl⟩)
      · have hx : (!Pu.letterI (↑s[k].toNat) ((k : Int) == 0)) = true := by assumption
        go_ret
        refine ⟨ret_bool ?_, rfl⟩
        rw [Pu.nameL, HA.out, HD.out, Pu.lettersF]; simp at hx; simp [hx]
      · have hx : (!Pu.letterI (↑s[k].toNat) ((k : Int) == 0)) = false := by assumption
        go_round
        case rel => exact ⟨k + 1, by omega, by go_num, by rw [Hid, HA.out, HD.out, Pu.lettersF]; simp at hx; simp only [hx, Bool.true_and]; rw [Int.natCast_add, Int.natCast_one, HZ.out]⟩
        case measure => simp [intOf]; omega
    · have HE := hide (dropB_end (s := s) (k := k) (by omega))
      go_wp2
      all_goals
        go_ret
        refine ⟨ret_bool ?_, rfl⟩
        rw [Pu.nameL, HL.out, HA.out, HE.out, Pu.lettersF, Bool.eq_iff_iff]; simp; try omega
theorem iIsName_c (s : ByteArray) (w : World) (hs : s.size ≤ maxLen) :
    Calls Try.prog 51 #[.string s] w fun e w' => e = .returned (.bool (Pu.nameL s.toList)) ∧ w = w' := by
  unfold maxLen at hs
  have HL := hide (lenB s)
  by_cases h0 : 0 < s.size
  · have HD := hide (dropB h0)
    have HA : Hid (Pu.nameL s.toList = (decide (s.size ≤ 8) && Pu.letterI s[0].toNat true && Pu.lettersF false s.toList)) := by
      have h1 := HD.out
      rw [List.drop_zero] at h1
      have h2 := HL.out
      rw [h1, List.length_cons] at h2
      rw [Hid, h1, Pu.nameL_alt, h2]
    go_enter Try.func51, Try.ntmps51
    go_wp2_with fail
    all_goals first
      | (go_ret; refine ⟨ret_bool ?_, rfl⟩; rw [HA.out, Bool.eq_iff_iff]; simp [Pu.letterI]; omega)
      | go_loop [3] (fun i => ∃ k : Nat, k ≤ s.size ∧ i = .int .i64 k ∧ Hid (Pu.lettersF false s.toList = Pu.lettersF false (s.toList.drop k))) (fun i => s.size - (intOf i).toNat)
    case atStart => exact ⟨0, by omega, rfl, rfl⟩
    case round =>
      obtain ⟨k, hk, rfl, HB⟩ := hrel
      have HN : Hid (Pu.nameL s.toList = Pu.lettersF false (s.toList.drop k)) := by
        rw [Hid, HA.out, HB.out]
        have : Pu.letterI s[0].toNat true = true := by simp [Pu.letterI]; omega
        rw [this, decide_eq_true (by omega)]; simp
      by_cases hlt : k < s.size
      · have HC := hide (dropB hlt)
        go_wp2
        all_goals first
          | (go_ret; refine ⟨ret_bool ?_, rfl⟩; rw [HN.out, HC.out, Pu.lettersF, Bool.eq_iff_iff]; simp [Pu.letterI]; intros; omega)
          | (go_round
             case rel => exact ⟨k + 1, by omega, by go_num, by rw [Hid, HB.out, HC.out, Pu.lettersF, Bool.eq_iff_iff]; simp [Pu.letterI]; intros; omega⟩
             case measure => simp [intOf]; omega)
      · have HE := hide (dropB_end (s := s) (k := k) (by omega))
        go_wp2
        go_ret
        refine ⟨ret_bool ?_, rfl⟩
        rw [HN.out, HE.out, Pu.lettersF]
  · go_enter Try.func51, Try.ntmps51
    go_wp2_with fail
    go_ret
    refine ⟨ret_bool ?_, rfl⟩
    rw [Pu.nameL, HL.out]; simp [h0]
end Go.Proofs.Ytnabpefjcgehiaa
/- Contracts: cells. -/
namespace Go.Proofs.Ytnabpefjcgehiaa
open Go.ChangeShapes Go.WideShapes Go.ChangeAt Go.RowKit
set_option maxRecDepth 100000
theorem isNumber_c (n : Int) (w : World) :
    Calls Try.prog 28 #[.int .i64 n] w fun e w' => e = .returned (.bool (Pu.isNum n)) ∧ w = w' := by
  go_enter Try.func28, Try.ntmps28
  go_wp2
  all_goals (go_ret; refine ⟨ret_bool ?_, rfl⟩; rw [Bool.eq_iff_iff]; simp [Pu.isNum]; omega)
theorem iIsCells_c (v : Value) (l : List Pu.CellD) (w : World) (hv : RdCells w v l) :
    Calls Try.prog 41 #[v] w fun e w' => e = .returned (.bool (Pu.cellsB l)) ∧ Below w.heap.size w w' := by
  obtain ⟨hv, hwf⟩ := hv
  obtain ⟨A, c, rfl, hlc, hcm, hrd⟩ := hv.open_
  have HR := hide hrd
  clear hrd hv
  by_cases h4 : l.length ≤ 4
  · have HF : Hid (Pu.cellsB l = Pu.cellsFrom none l) := by simp [Hid, Pu.cellsB, h4]
    go_enter Try.func41, Try.ntmps41
    go_wp2
    go_loopw [10] (fun i wr => ∃ k : Nat, k ≤ l.length ∧ i = .int .i64 k ∧ Hid (Pu.cellsFrom none l = Pu.cellsFrom (if k = 0 then none else (l[k-1]?).map (·.key)) (l.drop k)) ∧ Below w.heap.size w wr) (fun i _ => l.length - (intOf i).toNat)
    case atStart => exact ⟨0, by omega, rfl, rfl, Below.refl _ _⟩
    case round =>
      obtain ⟨k, hk, rfl, HA, hb⟩ := hrel
      by_cases hlt : k < l.length
      · obtain ⟨g, o, rfl, hg, HC⟩ := HR.out.at_ (by omega)
        obtain ⟨x, HX, h0, h1⟩ := cell_get HC hb hlt
        have hxw := hide ((hwf x (List.mem_of_getElem? HX.out)).1)
        have HD := hide (dropL HX)
        rcases hn : Pu.nameL x.key.toList with _ | _
        · go_wp2_with fail
          go_quiet ((first | (go_at_call 51; exact quiet_same (iIsName_c _ _ hxw.out)) | (go_at_call 28; exact quiet_same (isNumber_c _ _))))
          go_wp2
          go_ret
          exact ⟨ret_bool (by rw [HF.out, HA.out, HD.out, Pu.cellsFrom, hn]; rfl), below_drewN (below_alloc hb _) _⟩
        rcases hm : Pu.isNum x.val with _ | _
        · go_wp2_with fail
          go_quiet ((first | (go_at_call 51; exact quiet_same (iIsName_c _ _ hxw.out)) | (go_at_call 28; exact quiet_same (isNumber_c _ _))))
          go_wp2
          go_ret
          exact ⟨ret_bool (by rw [HF.out, HA.out, HD.out, Pu.cellsFrom, hn, hm]; rfl), below_drewN (below_alloc hb _) _⟩
        by_cases hk0 : 0 < k
        · have hk1 : k - 1 < l.length := by omega
          obtain ⟨y, HY, h2, h3⟩ := cell_get HC hb hk1
          have hA2 : ∀ o', (wr.alloc o').cell? ⟨g, o + (k - 1) * 2, none⟩ = some (.string y.key) := fun o' => (World.cell?_alloc_lt _ _ _ (by exact Nat.lt_of_lt_of_le hg hb.size)).trans h2
          have HE := hide (show (if k = 0 then none else (l[k-1]?).map (·.key)) = some y.key by rw [if_neg (by omega), HY.out]; rfl)
          have e2 : 0 ≤ (k : Int) - 1 := by omega
          have e2' : 1 ≤ (k : Int) := by omega
          have e3 : (k : Int) - 1 < (l.length : Int) := by omega
          have e1 : IntKind.i64.wrap ((k : Int) - 1) = (k : Int) - 1 := IntWalk.i64_in _ (by omega)
          have e4 : ((k : Int) - 1).toNat = k - 1 := by omega
          rcases hq : Op.bytesLess y.key.toList x.key.toList with _ | _
          · go_wp2_with fail
            go_quiet ((first | (go_at_call 51; exact quiet_same (iIsName_c _ _ hxw.out)) | (go_at_call 28; exact quiet_same (isNumber_c _ _))))
            go_wp2
            go_ret
            exact ⟨ret_bool (by rw [HF.out, HA.out, HD.out, Pu.cellsFrom, hn, hm, HE.out]; simp [Pu.keyB, hq]), below_drewN (below_alloc hb _) _⟩
          · go_wp2_with fail
            go_quiet ((first | (go_at_call 51; exact quiet_same (iIsName_c _ _ hxw.out)) | (go_at_call 28; exact quiet_same (isNumber_c _ _))))
            go_wp2
            go_roundw
            case rel => exact ⟨k + 1, by omega, by go_num, by rw [Hid, HA.out, HD.out, Pu.cellsFrom, hn, hm, HE.out]; simp [Pu.keyB, hq, HX.out], below_drewN (below_alloc hb _) _⟩
            case measure => simp [intOf]; omega
        · have HE := hide (show (if k = 0 then none else (l[k-1]?).map (·.key)) = none by rw [if_pos (by omega)])
          go_wp2_with fail
          go_quiet ((first | (go_at_call 51; exact quiet_same (iIsName_c _ _ hxw.out)) | (go_at_call 28; exact quiet_same (isNumber_c _ _))))
          go_wp2
          go_roundw
          case rel => exact ⟨k + 1, by omega, by go_num, by rw [Hid, HA.out, HD.out, Pu.cellsFrom, hn, hm, HE.out]; simp [Pu.keyB, HX.out], below_drewN (below_alloc hb _) _⟩
          case measure => simp [intOf]; omega
      · go_wp2
        go_ret
        exact ⟨ret_bool (by rw [HF.out, HA.out, List.drop_eq_nil_of_le (by omega)]; rfl), hb⟩
  · go_enter Try.func41, Try.ntmps41
    go_wp2
    go_ret
    exact ⟨ret_bool (by simp [Pu.cellsB, h4]), Below.refl _ _⟩
theorem sIsCells_c (v : Value) (l : List Pu.CellD) (w : World) (hv : RdCells w v l) :
    Calls Try.prog 70 #[v] w fun e w' => e = .returned (.bool (Pu.cellsB l)) ∧ Below w.heap.size w w' := by
  obtain ⟨hv, hwf⟩ := hv
  obtain ⟨A, c, rfl, hlc, hcm, hrd⟩ := hv.open_
  have HR := hide hrd
  clear hrd hv
  go_enter Try.func70, Try.ntmps70
  go_wp2
  go_loopw [7] (fun i wr => ∃ k : Nat, k ≤ l.length ∧ i = .int .i64 k ∧ Hid (Pu.cellsFrom none l = Pu.cellsFrom (if k = 0 then none else (l[k-1]?).map (·.key)) (l.drop k)) ∧ Below w.heap.size w wr) (fun i _ => l.length - (intOf i).toNat)
  case atStart => exact ⟨0, by omega, rfl, rfl, Below.refl _ _⟩
  case round =>
    obtain ⟨k, hk, rfl, HB, hb⟩ := hrel
    by_cases hlt : k < l.length
    · obtain ⟨g, o, rfl, hg, HC⟩ := HR.out.at_ (by omega)
      obtain ⟨x, HX, h0, h1⟩ := cell_get HC hb hlt
      have hxw := hide ((hwf x (List.mem_of_getElem? HX.out)).1)
      have HD := hide (dropL HX)
      rcases hn : Pu.nameL x.key.toList with _ | _
      · go_wp2_with fail
        go_quiet ((first | (go_at_call 71; exact quiet_same (sIsName_c _ _ hxw.out))))
        go_wp2
        go_ret
        exact ⟨ret_bool (by rw [Pu.cellsB, HB.out, HD.out, Pu.cellsFrom, hn]; simp), below_drewN (below_alloc hb _) _⟩
      by_cases hv0 : x.val < 0
      · have hv1 : decide (x.val < 0) = true := by simp; omega
        have HN : Hid (Pu.isNum x.val = false) := by rw [Hid, Pu.isNum, decide_eq_false (by omega)]; rfl
        go_wp2_with fail
        go_quiet ((first | (go_at_call 71; exact quiet_same (sIsName_c _ _ hxw.out))))
        go_wp2
        go_ret
        exact ⟨ret_bool (by rw [Pu.cellsB, HB.out, HD.out, Pu.cellsFrom, HN.out]; simp), below_drewN (below_alloc hb _) _⟩
      have hv0' : decide (x.val < 0) = false := by simp; omega
      by_cases hv9 : 999 < x.val
      · have hv1 : decide (999 < x.val) = true := by simp; omega
        have HN : Hid (Pu.isNum x.val = false) := by rw [Hid, Pu.isNum, decide_eq_false (p := x.val ≤ 999) (by omega)]; simp
        go_wp2_with fail
        go_quiet ((first | (go_at_call 71; exact quiet_same (sIsName_c _ _ hxw.out))))
        go_wp2
        go_ret
        exact ⟨ret_bool (by rw [Pu.cellsB, HB.out, HD.out, Pu.cellsFrom, HN.out]; simp), below_drewN (below_alloc hb _) _⟩
      have hv9' : decide (999 < x.val) = false := by simp; omega
      have HN : Hid (Pu.isNum x.val = true) := by rw [Hid, Pu.isNum, decide_eq_true (by omega), decide_eq_true (by omega)]; rfl
      by_cases hk0 : 0 < k
      · have hk1 : k - 1 < l.length := by omega
        obtain ⟨y, HY, h2, h3⟩ := cell_get HC hb hk1
        have hA2 : ∀ o', (wr.alloc o').cell? ⟨g, o + (k - 1) * 2, none⟩ = some (.string y.key) := fun o' => (World.cell?_alloc_lt _ _ _ (by exact Nat.lt_of_lt_of_le hg hb.size)).trans h2
        have HE := hide (show (if k = 0 then none else (l[k-1]?).map (·.key)) = some y.key by rw [if_neg (by omega), HY.out]; rfl)
        have e2 : 0 ≤ (k : Int) - 1 := by omega
        have e2' : 1 ≤ (k : Int) := by omega
        have e3 : (k : Int) - 1 < (l.length : Int) := by omega
        have e1 : IntKind.i64.wrap ((k : Int) - 1) = (k : Int) - 1 := IntWalk.i64_in _ (by omega)
        have e4 : ((k : Int) - 1).toNat = k - 1 := by omega
        rcases hq : Op.bytesLess y.key.toList x.key.toList with _ | _
        · go_wp2_with fail
          go_quiet ((first | (go_at_call 71; exact quiet_same (sIsName_c _ _ hxw.out))))
          go_wp2
          go_ret
          exact ⟨ret_bool (by rw [Pu.cellsB, HB.out, HD.out, Pu.cellsFrom, HE.out]; simp [Pu.keyB, hq]), below_drewN (below_alloc hb _) _⟩
        · go_wp2_with fail
          go_quiet ((first | (go_at_call 71; exact quiet_same (sIsName_c _ _ hxw.out))))
          go_wp2
          go_roundw
          case rel => exact ⟨k + 1, by omega, by go_num, by rw [Hid, HB.out, HD.out, Pu.cellsFrom, hn, HN.out, HE.out]; simp [Pu.keyB, hq, HX.out], below_drewN (below_alloc hb _) _⟩
          case measure => simp [intOf]; omega
      · have HE := hide (show (if k = 0 then none else (l[k-1]?).map (·.key)) = none by rw [if_pos (by omega)])
        go_wp2_with fail
        go_quiet ((first | (go_at_call 71; exact quiet_same (sIsName_c _ _ hxw.out))))
        go_wp2
        go_roundw
        case rel => exact ⟨k + 1, by omega, by go_num, by rw [Hid, HB.out, HD.out, Pu.cellsFrom, hn, HN.out, HE.out]; simp [Pu.keyB, HX.out], below_drewN (below_alloc hb _) _⟩
        case measure => simp [intOf]; omega
    · go_wp2
      go_ret
      exact ⟨ret_bool (by rw [Pu.cellsB, HB.out, dropEnd (by omega), Pu.cellsFrom, Bool.and_true, Bool.eq_iff_iff]; simp; omega), hb⟩
end Go.Proofs.Ytnabpefjcgehiaa
/- Contracts: abilities and their methods. -/
namespace Go.Proofs.Ytnabpefjcgehiaa
open Go.ChangeShapes Go.WideShapes Go.ChangeAt Go.RowKit
set_option maxRecDepth 100000
theorem or_pow : ∀ k : Nat, k < 6 → ∀ n : Nat, n < 64 → n < 2 ^ k → bits .or .i64 (n : Int) ((2 : Int) ^ k) = (n : Int) + 2 ^ k := by decide +kernel
end Go.Proofs.Ytnabpefjcgehiaa
/- Contracts of the laws' own helpers: replies. -/
namespace Go.Proofs.Ytnabpefjcgehiaa
open Go.ChangeShapes Go.WideShapes Go.ChangeAt Go.RowKit
set_option maxRecDepth 100000
def replyV (r : Pu.ReplyD) : Value := .agg #[.int .i64 r.code, .int .i64 r.value, .string r.text, .int .i64 r.want, .int .i64 r.had]
end Go.Proofs.Ytnabpefjcgehiaa
/- What Get and Put do to a core, in plain Lean. -/
namespace Go.Proofs.Ytnabpefjcgehiaa.Pu
def rp (code value : Int) : ReplyD := ⟨code, value, ⟨#[]⟩, 0, 0⟩
/-- the face of the core's kind -/
def faceK (p : CoreD) : Int := kindF p.kind.toList
def keepF (get : Bool) (p : CoreD) (x : CallD) : CoreD × ReplyD :=
  if hasB (faceK p) 0 && !p.on then (p, rp 2 0)
  else if get then (if hit x.key p.cells then (p, rp 0 (getV x.key p.cells)) else (p, rp 4 0))
  else if !hit x.key p.cells && decide (4 ≤ p.cells.length) then (p, rp 5 0)
  else (⟨p.kind, p.on, p.broken, putC x.key x.value p.cells, upF p.count⟩, rp 0 (putC x.key x.value p.cells).length)
end Go.Proofs.Ytnabpefjcgehiaa.Pu
/- A region that draws its order, whose last operation waits for all others: the condition S is asked behind the others alone. -/
namespace Go.Proofs.Ytnabpefjcgehiaa
open Go.ChangeShapes Go.WideShapes Go.ChangeAt Go.RowKit
set_option maxRecDepth 100000
section
variable {P : Program} {ops : Array Oper} {Q : Exit → Act → World → Prop} {md : Region.Mode} {S : World → Prop} {n : Nat}
def wpAnyT (P : Program) (md : Region.Mode) (ops : Array Oper) (Q : Exit → Act → World → Prop) (S : World → Prop) (n : Nat) : Nat → Array Bool → Act → World → Prop
  | 0, listed, a, w => Region.ready md ops listed = [] ∧ Q .normal a w
  | fuel + 1, listed, a, w =>
    (Region.ready md ops listed = [] → Q .normal a w) ∧
    ∀ i ∈ Region.ready md ops listed, wpOp P ops Q i (fun a' w' => (i ≠ n → S w') ∧ wpAnyT P md ops Q S n fuel (listed.setIfInBounds i true) a' w') a w
theorem wpAny_of_T : ∀ (fuel : Nat) (listed : Array Bool) (a : Act) (w : World), wpAnyT P md ops Q S n fuel listed a w → wpAny P md ops Q fuel listed a w
  | 0, _, _, _, h => h
  | fuel + 1, _, _, _, h => ⟨h.1, fun i hi => wpOp_mono (fun a' w' h' => wpAny_of_T fuel _ a' w' h'.2) (h.2 i hi)⟩
/-- the last operation waits for all others -/
structure TailAt (md : Region.Mode) (ops : Array Oper) (n : Nat) : Prop where
  sel : Region.noSelect ops = true
  sink : Region.sinkB md ops n = true
  chain : Region.chainB md ops n = true
  lt : n < ops.size
theorem wpAnyT_first {i : Nat} {oi : Oper} {v : Value} (tl : TailAt md ops n) (hi : ops[i]? = some oi) (hin : i < n)
    (hQ : ∀ c a w, Q (.panic c) (a.put oi.dst v) w → Q (.panic c) a w) :
    ∀ (fuel : Nat) (listed : Array Bool) (a : Act) (w : World), HeadInv md ops n listed →
      (∀ j oj, ops[j]? = some oj → j ≠ i → listed.getD j true = false → (∀ e ∈ oj.after, Region.binds md e = true → e.on ≠ i) → oi.apart ops oj = true) →
      i ∈ Region.ready md ops listed → YieldsIf P ops S oi v a → S w →
      wpAnyT P md ops Q S n fuel (listed.setIfInBounds i true) (a.put oi.dst v) w → wpAnyT P md ops Q S n (fuel + 1) listed a w := by
  have hsel := Region.noSelect_spec tl.sel
  intro fuel
  induction fuel with
  | zero =>
    intro listed a w inv _ hr hy hS H
    refine ⟨fun h => (by rw [h] at hr; cases hr), fun j hj => ?_⟩
    by_cases hji : j = i
    · subst hji; exact hy.wpOp hi hS ⟨fun _ => hS, H⟩
    · have := ready_mono hj hji
      rw [H.1] at this
      cases this
  | succ fuel ih =>
    intro listed a w inv hfree hr hy hS H
    have hun := (mem_ready.1 hr).1
    refine ⟨fun h => (by rw [h] at hr; cases hr), fun j hj => ?_⟩
    by_cases hji : j = i
    · subst hji; exact hy.wpOp hi hS ⟨fun _ => hS, H⟩
    · have hjn : j < n := by
        rcases Nat.lt_or_ge j n with h | h
        · exact h
        · exact absurd hj (tail_waits tl.sink tl.chain tl.lt inv _ i rfl hin hun j h)
      have h1 := H.2 j (ready_mono hj hji)
      obtain ⟨hjun, oj, hoj, hall⟩ := mem_ready.1 hj
      have hnot : ∀ e ∈ oj.after, Region.binds md e = true → e.on ≠ i := fun e he hb heq => by
        have h1 := hall e he hb
        rw [heq, getD_both hun] at h1
        cases h1
      have h2 := wpOp_putIf hoj (hfree j oj hoj hji hjun hnot) (fun cs b => hsel i oi cs b hi) (fun cs b => hsel j oj cs b hoj) hQ hy h1
      have hfree' : ∀ k ok, ops[k]? = some ok → k ≠ i → (listed.setIfInBounds j true).getD k true = false →
          (∀ e ∈ ok.after, Region.binds md e = true → e.on ≠ i) → oi.apart ops ok = true := fun k ok hk hki hun hno => by
        refine hfree k ok hk hki ?_ hno
        by_cases hjk : j = k
        · subst hjk; exact hjun
        · rw [getD_set_ne true hjk] at hun; exact hun
      refine wpOp_mono (fun a' w' h3 => ⟨h3.2.1, ih (listed.setIfInBounds j true) a' w' (inv.set hj hjn) hfree' (ready_mono hr (Ne.symm hji)) h3.1 (h3.2.1 (by omega)) ?_⟩) h2
      rw [Array.setIfInBounds_comm _ _ hji]
      exact h3.2.2
/-- number i is taken first -/
theorem wpAnyT_take {i : Nat} {oi : Oper} {v : Value} {fuel : Nat} {listed : Array Bool} {a : Act} {w : World} (tl : TailAt md ops n) (inv : HeadInv md ops n listed) (hS : S w) (hi : ops[i]? = some oi)
    (hf : Region.free md ops listed i = true) (hr : (Region.ready md ops listed).contains i = true) (hin : i < n)
    (hQ : ∀ c a w, Q (.panic c) (a.put oi.dst v) w → Q (.panic c) a w) (hw : Region.wanted oi (yielded ops a.tmps) = true) (hy : ∀ w, S w → (execOp a.eval oi).run P w = .ok (.value v) w)
    (h : HeadInv md ops n (listed.setIfInBounds i true) → wpAnyT P md ops Q S n fuel (listed.setIfInBounds i true) (a.put oi.dst v) w) : wpAnyT P md ops Q S n (fuel + 1) listed a w :=
  wpAnyT_first tl hi hin hQ fuel listed a w inv (Region.free_spec hi hf) (by simpa using hr) (.inl ⟨hw, hy⟩) hS (h (inv.set (by simpa using hr) hin))
/-- what follows an operation that is carried out -/
def After (P : Program) (md : Region.Mode) (ops : Array Oper) (Q : Exit → Act → World → Prop) (S : World → Prop) (n i fuel : Nat) (listed : Array Bool) (K : Act → World → Prop) : Prop :=
  ∀ a w, (i ≠ n → S w) → ((i < n → HeadInv md ops n (listed.setIfInBounds i true)) → wpAnyT P md ops Q S n fuel (listed.setIfInBounds i true) a w) → K a w
theorem wpAnyT_one {i : Nat} {o : Oper} {fuel : Nat} {listed : Array Bool} {a : Act} {w : World} (inv : HeadInv md ops n listed) (hi : ops[i]? = some o) (hr : Region.ready md ops listed = [i])
    (h : ∀ K : Act → World → Prop, After P md ops Q S n i fuel listed K → if Region.wanted o (yielded ops a.tmps) = true then Oper.wp P o a w K Q else K (a.put o.dst undef) w) : wpAnyT P md ops Q S n (fuel + 1) listed a w :=
  ⟨fun h0 => (by rw [hr] at h0; cases h0), fun j hj => by
    rw [hr] at hj
    obtain rfl : j = i := by simpa using hj
    exact wpOp_step hi fun K hK => h K fun a w hS hW => hK a w ⟨hS, hW fun hlt => inv.set (by rw [hr]; simp) hlt⟩⟩
theorem wpAnyT_two {i j : Nat} {o o' : Oper} {fuel : Nat} {listed : Array Bool} {a : Act} {w : World} (inv : HeadInv md ops n listed) (hi : ops[i]? = some o) (hj : ops[j]? = some o') (hr : Region.ready md ops listed = [i, j])
    (h : ∀ K : Act → World → Prop, After P md ops Q S n i fuel listed K → if Region.wanted o (yielded ops a.tmps) = true then Oper.wp P o a w K Q else K (a.put o.dst undef) w)
    (h' : ∀ K : Act → World → Prop, After P md ops Q S n j fuel listed K → if Region.wanted o' (yielded ops a.tmps) = true then Oper.wp P o' a w K Q else K (a.put o'.dst undef) w) : wpAnyT P md ops Q S n (fuel + 1) listed a w :=
  ⟨fun h0 => (by rw [hr] at h0; cases h0), fun k hk => by
    rw [hr] at hk
    rcases (by simpa using hk : k = i ∨ k = j) with rfl | rfl
    · exact wpOp_step hi fun K hK => h K fun a w hS hW => hK a w ⟨hS, hW fun hlt => inv.set (by rw [hr]; simp) hlt⟩
    · exact wpOp_step hj fun K hK => h' K fun a w hS hW => hK a w ⟨hS, hW fun hlt => inv.set (by rw [hr]; simp) hlt⟩⟩
theorem wpAnyT_done {listed : Array Bool} {a : Act} {w : World} (hr : Region.ready md ops listed = []) (h : Q .normal a w) : ∀ fuel, wpAnyT P md ops Q S n fuel listed a w
  | 0 => ⟨hr, h⟩
  | _ + 1 => ⟨fun _ => h, by rw [hr]; simp⟩
theorem wp_region_T {id F : Nat} {a : Act} {w : World} (S : World → Prop) (n : Nat) (hm : P.follows .mixedOrders = true) (hF : ops.size = F)
    (hB : (Region.noSelect ops && Region.sinkB .any ops n && Region.chainB .any ops n && decide (n < ops.size)) = true)
    (h : TailAt .any ops n → HeadInv .any ops n (Array.replicate F false) → wpAnyT P .any ops Q S n F (Array.replicate F false) a w.drew) : (Code.region id ops true).wp P Q a w := by
  subst hF
  simp only [Bool.and_eq_true, decide_eq_true_eq] at hB
  obtain ⟨⟨⟨h1, h2⟩, h3⟩, h4⟩ := hB
  exact wp_region_any hm (wpAny_of_T _ _ _ _ (h ⟨h1, h2, h3, h4⟩ ⟨by simp, fun j oj _ hl => (by rw [getD_replicate_false] at hl; cases hl), fun t _ ht => getD_in (by simpa using ht) (getD_replicate_false _ _)⟩))
end
end Go.Proofs.Ytnabpefjcgehiaa
/- Contracts of the laws' own helpers: layers. -/
namespace Go.Proofs.Ytnabpefjcgehiaa
open Go.ChangeShapes Go.WideShapes Go.ChangeAt Go.RowKit
set_option maxRecDepth 100000
def LayerD.wf (c : Pu.LayerD) : Prop := c.name.size ≤ maxLen ∧ (Lit.int .i64 c.count).wf = true
def RdLayers (w : World) (v : Value) (l : List Pu.LayerD) : Prop := RdL w 2 layerEn v l ∧ ∀ c ∈ l, LayerD.wf c
theorem layer_get {w wr : World} {g o : Nat} {l : List Pu.LayerD} (h : Hid (RdFrom w 2 layerEn g o l)) (hb : Below w.heap.size w wr) {k : Nat} (hk : k < l.length) :
    ∃ x, Hid (l[k]? = some x) ∧ wr.cell? ⟨g, o + k * 2, none⟩ = some (.string x.name) ∧ wr.cell? ⟨g, o + k * 2 + 1, none⟩ = some (.int .i64 x.count) := by
  obtain ⟨x, hx, hc⟩ := h.out.get hb hk
  exact ⟨x, hx, hc 0 _ rfl, hc 1 _ rfl⟩
theorem RdLayers.below {w w1 : World} {v : Value} {l : List Pu.LayerD} (h : RdLayers w v l) (hb : Below w.heap.size w w1) : RdLayers w1 v l := ⟨RdL.below h.1 hb (Nat.le_refl _), h.2⟩
theorem info_layer : (Try.prog.info? 57).map (fun i => (i.zero, i.size, i.bytes)) = some (some (.agg #[.string ByteArray.empty, .int .i64 0]), 2, 24) := by kernel_rfl
end Go.Proofs.Ytnabpefjcgehiaa
/- '==' on structs of a string and an int. -/
namespace Go.Proofs.Ytnabpefjcgehiaa
open Go.ChangeShapes Go.WideShapes Go.ChangeAt Go.RowKit
set_option maxRecDepth 100000
theorem Pu.take_map {α β : Type} {f : α → β} {l m : List α} {k : Nat} {x y : α} (h : (l.map f).take k = (m.map f).take k) (hx : l[k]? = some x) (hy : m[k]? = some y) (hf : f x = f y) : (l.map f).take (k + 1) = (m.map f).take (k + 1) := by
  rw [List.take_add_one, List.take_add_one, h, List.getElem?_map, List.getElem?_map, hx, hy, Option.map_some, Option.map_some, hf]
theorem Pu.map_ne {α β : Type} {f : α → β} {l m : List α} {k : Nat} {x y : α} (hx : l[k]? = some x) (hy : m[k]? = some y) (hf : f x ≠ f y) : l.map f ≠ m.map f := fun h => by
  have := congrArg (·[k]?) h
  simp only [List.getElem?_map, hx, hy, Option.map_some, Option.some.injEq] at this
  exact hf this
theorem neq_pair {t ts ti : TypeId} {n0 n1 : String} (k k' : ByteArray) (v v' : Int) (w : World)
    (h1 : Try.prog.stoodInHeld t = false) (h2 : (Try.prog.fieldsOf t).toList.map (fun f => (f.name, f.type, f.offset)) = [(n0, ts, 0), (n1, ti, 1)])
    (h3 : Try.prog.underlying t = some (.struct (Try.prog.fieldsOf t))) (h4 : Try.prog.underlying ts = some .string) (h5 : Try.prog.underlying ti = some (.int .i64)) (h6 : Try.prog.plainKey ts = true) (h7 : Try.prog.plainKey ti = true) (hn0 : n0 ≠ "_") (hn1 : n1 ≠ "_") :
    (binOp .neq t (.agg #[.string k, .int .i64 v]) (.agg #[.string k', .int .i64 v'])).run Try.prog w = .ok (.bool (!(k.toList == k'.toList && v == v'))) w := by
  rw [run_neq_struct, show (10000 : Nat) = 9998 + 1 + 1 from rfl, run_equalIn_agg _ _ _ _ _ h3 h1]
  generalize (Try.prog.fieldsOf t).toList = fs at h2
  match fs, h2 with
  | [a, b], h2 =>
    simp only [List.map_cons, List.map_nil, List.cons.injEq, Prod.mk.injEq, and_true] at h2
    obtain ⟨⟨ha1, ha2, ha3⟩, hb1, hb2, hb3⟩ := h2
    have e1 : (part ts #[.string k, .int .i64 v] 0).run Try.prog w = .ok (.string k) w := run_part_plain w h6 rfl
    have e2 : (part ts #[.string k', .int .i64 v'] 0).run Try.prog w = .ok (.string k') w := run_part_plain w h6 rfl
    have e3 : (part ti #[.string k, .int .i64 v] 1).run Try.prog w = .ok (.int .i64 v) w := run_part_plain w h7 rfl
    have e4 : (part ti #[.string k', .int .i64 v'] 1).run Try.prog w = .ok (.int .i64 v') w := run_part_plain w h7 rfl
    simp only [Op.eqFields, ha1, ha2, ha3, hb1, hb2, hb3, hn0, hn1, ne_eq, not_false_eq_true, if_true, Sem.run_bind, e1, e2, Result.andThen_ok, run_equalIn_string _ _ _ _ _ h4]
    have e5 : (v == v') = decide (v = v') := rfl
    rcases k.toList == k'.toList <;> rcases hd : decide (v = v') <;> simp [e5, hd, e3, e4, Result.andThen_ok, run_equalIn_int _ _ _ _ _ _ _ h5]
  | [], h2 => simp at h2
  | [_], h2 => simp at h2
  | _ :: _ :: _ :: _, h2 => simp at h2
theorem neq_cell (k k' : ByteArray) (v v' : Int) (w : World) : (binOp .neq 74 (.agg #[.string k, .int .i64 v]) (.agg #[.string k', .int .i64 v'])).run Try.prog w = .ok (.bool (!(k.toList == k'.toList && v == v'))) w :=
  neq_pair (n0 := "Key") (n1 := "Value") k k' v v' w (by kernel_rfl) (by kernel_rfl) (by kernel_rfl) Try.underlying9 Try.underlying3 (by kernel_rfl) (by kernel_rfl) (by decide) (by decide)
theorem guard_cell : Try.prog.eqGuardType Try.prog.depth 74 = false := by kernel_rfl
theorem neq_layer (k k' : ByteArray) (v v' : Int) (w : World) : (binOp .neq 57 (.agg #[.string k, .int .i64 v]) (.agg #[.string k', .int .i64 v'])).run Try.prog w = .ok (.bool (!(k.toList == k'.toList && v == v'))) w :=
  neq_pair (n0 := "Name") (n1 := "Count") k k' v v' w (by kernel_rfl) (by kernel_rfl) (by kernel_rfl) Try.underlying9 Try.underlying3 (by kernel_rfl) (by kernel_rfl) (by decide) (by decide)
theorem guard_layer : Try.prog.eqGuardType Try.prog.depth 57 = false := by kernel_rfl
end Go.Proofs.Ytnabpefjcgehiaa
/- The laws' own arguments, opened: what the walk asks of them. -/
namespace Go.Proofs.Ytnabpefjcgehiaa
open Go.ChangeShapes Go.WideShapes Go.ChangeAt Go.RowKit
set_option maxRecDepth 100000
def ArgStr (w : World) (v : Value) (l : List ByteArray) : Prop := RdStr w v l ∧ ∀ x ∈ l, x.size ≤ maxLen
theorem add_lit (g o j : Nat) : (⟨g, o, none⟩ : Addr).add j = ⟨g, o + j, none⟩ := by unfold Addr.add; split <;> simp_all
/-- an address at which a cell is read -/
theorem spot_none {w : World} {a : Addr} {u : Value} (h : w.cell? a = some u) : a = ⟨a.block, a.off, none⟩ ∧ a.block < w.heap.size := by
  have hlt := World.block_lt_of_cell? w a h
  refine ⟨?_, hlt⟩
  unfold World.cell? at h
  obtain ⟨b, o, s⟩ := a
  cases s with
  | none => rfl
  | some s =>
    simp only at h
    split at h <;> simp_all
section
variable {H : Type} {enc : TypeId × Value → H} {W : World} {d : DataW H} {p : List MemPlace} {v : Value}
theorem open_strs {base : Nat} (hv : Value.okWide Try.prog W .any base 24 v) (h : DataW.Trod enc Try.prog W 0 (fun _ => true) true 24 v d p) : ∃ l, ArgStr W v l := by
  obtain ⟨a0, len, cap, rfl⟩ := okWide_slice Try.underlying24 hv
  obtain ⟨fuel, hf⟩ := h
  rcases open_strings Try.underlying24 Try.underlying9 (by kernel_rfl) hf with ⟨hcs, _⟩ | ⟨a, len', cap', ss, hcs, _, hl, hm, hz, _, hcell, hws⟩
  · have e : Value.slice a0 len cap = .slice none 0 0 := by simpa [Value.cells] using hcs
    rw [e]
    exact ⟨[], RdL.nil _ _ _, by simp⟩
  · have e : Value.slice a0 len cap = .slice (some a) len' cap' := by simpa [Value.cells] using hcs
    rw [e]
    simp only [if_true] at hz
    have hlen : (ss.take len').length = len' := by rw [List.length_take]; omega
    refine ⟨ss.take len', ⟨some a, cap', by rw [hlen], by omega, hm, fun h0 => ?_⟩, fun x hx => hws x (List.mem_of_mem_take hx)⟩
    have h00 := hcell 0 (by omega)
    have ha : a.add 0 = a := by simp [Addr.add]
    rw [ha] at h00
    obtain ⟨e1, e2⟩ := spot_none h00
    refine ⟨a.block, a.off, by rw [← e1], e2, fun i x hx j u hu => ?_⟩
    match j, hu with
    | 0, hu =>
      simp [strEn] at hu
      subst hu
      obtain ⟨hi, hxe⟩ := List.getElem?_eq_some_iff.1 hx
      have hci := hcell i (by rw [List.length_take] at hi; omega)
      rw [e1, add_lit] at hci
      rw [Nat.mul_one, Nat.add_zero, hci]
      rw [List.getElem_take] at hxe
      rw [← hxe]
      simp [List.getD_eq_getElem?_getD, List.getElem?_eq_getElem (show i < ss.length by rw [List.length_take] at hi; omega)]
    | j + 1, hu => simp [strEn] at hu
theorem open_bytes {base : Nat} (hv : Value.okWide Try.prog W .any base 22 v) (h : DataW.Trod enc Try.prog W 0 (fun _ => true) true 22 v d p) : ∃ l, RdL W 1 byteEn v l := by
  obtain ⟨a0, len, cap, rfl⟩ := okWide_slice Try.underlying22 hv
  obtain ⟨fuel, hf⟩ := h
  rcases open_ints Try.underlying22 Try.underlying5 (by kernel_rfl) hf with ⟨hcs, _⟩ | ⟨a, len', cap', zs, hcs, _, hl, hm, hz, _, hcell, hwz⟩
  · have e : Value.slice a0 len cap = .slice none 0 0 := by simpa [Value.cells] using hcs
    rw [e]
    exact ⟨[], RdL.nil _ _ _⟩
  · have e : Value.slice a0 len cap = .slice (some a) len' cap' := by simpa [Value.cells] using hcs
    rw [e]
    simp only [if_true] at hz
    have hlen : ((zs.take len').map fun z => UInt8.ofNat z.toNat).length = len' := by rw [List.length_map, List.length_take]; omega
    refine ⟨(zs.take len').map fun z => UInt8.ofNat z.toNat, some a, cap', by rw [hlen], by omega, hm, fun h0 => ?_⟩
    have h00 := hcell 0 (by omega)
    have ha : a.add 0 = a := by simp [Addr.add]
    rw [ha] at h00
    obtain ⟨e1, e2⟩ := spot_none h00
    refine ⟨a.block, a.off, by rw [← e1], e2, fun i x hx j u hu => ?_⟩
    match j, hu with
    | 0, hu =>
      simp [byteEn] at hu
      subst hu
      rw [List.getElem?_map, Option.map_eq_some_iff] at hx
      obtain ⟨z, hz', rfl⟩ := hx
      obtain ⟨hi, hxe⟩ := List.getElem?_eq_some_iff.1 hz'
      have hil : i < zs.length := by rw [List.length_take] at hi; omega
      have hci := hcell i hil
      rw [e1, add_lit] at hci
      rw [Nat.mul_one, Nat.add_zero, hci]
      rw [List.getElem_take] at hxe
      have hw := hwz _ (List.getElem_mem hil)
      rw [hxe] at hw
      simp [Lit.wf, IntKind.min, IntKind.max, IntKind.signed, IntKind.bits] at hw
      have e3 : zs.getD i 0 = z := by simp [List.getD_eq_getElem?_getD, List.getElem?_eq_getElem hil, hxe]
      rw [e3]
      congr 2
      show z = ((UInt8.ofNat z.toNat).toNat : Int)
      rw [UInt8.toNat_ofNat']
      omega
    | j + 1, hu => simp [byteEn] at hu
theorem cells_str : Try.prog.cellsOf 9 = 1 := by kernel_rfl
theorem cells_int : Try.prog.cellsOf 3 = 1 := by kernel_rfl
theorem cells_bool : Try.prog.cellsOf 4 = 1 := by kernel_rfl
theorem list_of {α : Type} {Q : Nat → α → Prop} : ∀ n : Nat, (∀ i, i < n → ∃ x, Q i x) → ∃ l : List α, l.length = n ∧ ∀ i x, l[i]? = some x → Q i x
  | 0, _ => ⟨[], rfl, fun i x h => by simp at h⟩
  | n + 1, h => by
    obtain ⟨l, hl, hq⟩ := list_of n (fun i hi => h i (by omega))
    obtain ⟨x, hx⟩ := h n (by omega)
    refine ⟨l ++ [x], by simp [hl], fun i y hy => ?_⟩
    by_cases hi : i < l.length
    · rw [List.getElem?_append_left hi] at hy
      exact hq i y hy
    · rw [List.getElem?_append_right (by omega)] at hy
      have h2 := (List.getElem?_eq_some_iff.1 hy).1
      simp at h2
      have h3 : i - l.length = 0 := by omega
      rw [h3] at hy
      simp at hy
      subst hy
      rw [show i = n by omega]
      exact hx
/-- a slice whose elements are read one by one -/
theorem open_list {α : Type} {t e : TypeId} {size base : Nat} (en : α → List Value) (ok : α → Prop) (hu : Try.prog.underlying t = some (.slice e)) (hc : Try.prog.cellsOf e = size) (hsz : 0 < size) (hlen : ∀ x, (en x).length = size)
    (hdec : ∀ n cs y, DataW.trod enc Try.prog W 0 (fun _ => true) true n e cs = some y → ∃ x, cs = en x ∧ ok x)
    (hv : Value.okWide Try.prog W .any base t v) (h : DataW.Trod enc Try.prog W 0 (fun _ => true) true t v d p) : ∃ l, RdL W size en v l ∧ ∀ x ∈ l, ok x := by
  obtain ⟨a0, len, cap, rfl⟩ := okWide_slice hu hv
  obtain ⟨fuel, hf⟩ := h
  rcases Go.Deep.open_slice hu hf with ⟨hcs, _⟩ | ⟨a, len', cap', m, n, D, Pl, hcs, _, hl, hm, hmm, _, hi⟩
  · have e : Value.slice a0 len cap = .slice none 0 0 := by simpa [Value.cells] using hcs
    rw [e]
    exact ⟨[], RdL.nil _ _ _, by simp⟩
  · have e : Value.slice a0 len cap = .slice (some a) len' cap' := by simpa [Value.cells] using hcs
    rw [e]
    simp only [if_true] at hmm
    rw [hc] at hi
    obtain ⟨l, hll, hq⟩ := list_of (Q := fun i x => W.cells? 0 (a.add (i * size)) size = some (en x) ∧ ok x) len' (fun i hil => by
      obtain ⟨cs', h1, h2⟩ := hi i (by omega)
      obtain ⟨x, rfl, hx⟩ := hdec _ _ _ h2
      exact ⟨x, h1, hx⟩)
    refine ⟨l, ⟨some a, cap', by rw [hll], by omega, hm, fun h0 => ?_⟩, fun x hx => ?_⟩
    · obtain ⟨hw0, _⟩ := hq 0 l[0] (List.getElem?_eq_getElem (by omega))
      obtain ⟨_, _, hat⟩ := World.cells?_some hw0
      have h00 := hat 0 (by omega)
      have hlt0 : 0 < (en l[0]).length := by rw [hlen]; exact hsz
      rw [List.getElem?_eq_getElem hlt0] at h00
      have ha : (a.add (0 * size)).add 0 = a := by simp [Addr.add]
      rw [ha] at h00
      obtain ⟨e1, e2⟩ := spot_none h00
      refine ⟨a.block, a.off, by rw [← e1], e2, fun i x hx j u hu => ?_⟩
      obtain ⟨hwi, _⟩ := hq i x hx
      obtain ⟨_, _, hat⟩ := World.cells?_some hwi
      have hj := hat j (by rw [← hlen x]; exact (List.getElem?_eq_some_iff.1 hu).1)
      rw [e1, add_lit, add_lit] at hj
      exact hj.trans hu
    · obtain ⟨i, hi, rfl⟩ := List.getElem_of_mem hx
      exact (hq i _ (List.getElem?_eq_getElem hi)).2
end
end Go.Proofs.Ytnabpefjcgehiaa
/- The last step of every law of this family: it returned true, and nothing that was there before the call has changed. -/
namespace Go.Proofs.Ytnabpefjcgehiaa
open Go.ChangeShapes Go.WideShapes Go.ChangeAt Go.RowKit
set_option maxRecDepth 100000
section
variable {H : Type} {enc : TypeId × Value → H} {P : Program}

/-- What was read as data before the call reads so behind it. -/
theorem trodAll_kept (hl : laidOutB P = true) {W W' : World} (hb : Below W.heap.size W W') :
    ∀ (ts : List TypeId) (vs : List Value) (ds : List (DataW H)) (ps : List MemPlace), ts.all (fun t => P.readableRec t && decide (t < P.types.size)) = true →
      DataW.TrodAll enc P W 0 (fun _ => true) true ts vs ds ps → (∀ x ∈ ps, x.block < W.heap.size) → DataW.TrodAll enc P W' 0 (fun b => decide (b < W.heap.size)) true ts vs ds ps
  | [], vs, ds, ps, _, h, _ => by
    obtain ⟨rfl, rfl, rfl⟩ := trodAll_nil h
    exact trodAll_mk0
  | t :: ts, vs, ds, ps, hr, h, hlt => by
    obtain ⟨v, vs', d, ds', p, q, rfl, rfl, rfl, h0, h1⟩ := trodAll_cons h
    simp only [List.all_cons, Bool.and_eq_true, decide_eq_true_eq] at hr
    exact trodAll_cons_mk (Go.RowKit.Below.trod hl hr.1.1 hr.1.2 h0 hb fun x hx => hlt x (by simp [hx])) (trodAll_kept hl hb ts vs' ds' q hr.2 h1 fun x hx => hlt x (by simp [hx]))

theorem law_post {f : Func} {s : ChangeSpec} {W W' : World} {args : Array Value} {ds gs : List (DataW H)} {before : List MemPlace} {tb : TypeId}
    (hl : laidOutB P = true) (hr : f.params.toList.all (fun t => P.readableRec t && decide (t < P.types.size)) = true)
    (hW : DataW.Whole enc P f.params.toList s.vars false W args.toList ds gs before) (hb : Below W.heap.size W W')
    (ht : f.resultTypes = #[tb]) (hu : P.underlying tb = some .bool) (hv : s.vars = []) (hres : (s.fn H ds).results = [.lit (.bool true)]) (hargs : (s.fn H ds).args = ds) (hvars : (s.fn H ds).vars = []) :
    s.post enc P f false true false false W args (.bool true) W' := by
  have hlt : ∀ x ∈ before, x.block < W.heap.size := fun x hx => hW.lt x hx
  have hW0 := hW
  obtain ⟨p, q, hA, hV, rfl, _, _⟩ := hW0
  rw [hv] at hV
  obtain ⟨rfl, rfl⟩ := trodVars_none hV
  refine ⟨ds, [], p ++ [], [], p, [], hW, ?_, ?_, ?_, hb.frame _, fun h => by cases h⟩
  · rw [List.append_nil, hres, ht]
    exact trodAll_mk1 (shut_bool hu true)
  · rw [List.append_nil, hargs]
    exact trodAll_kept hl hb _ _ _ _ hr hA fun x hx => hlt x (by simp [hx])
  · rw [List.append_nil, hvars, hv]
    exact rfl
end
end Go.Proofs.Ytnabpefjcgehiaa
/- A region that draws its order, by an invariant: what is known once an operation is done, and that the others leave it so. -/
namespace Go.Proofs.Ytnabpefjcgehiaa
open Go.ChangeShapes Go.WideShapes Go.ChangeAt Go.RowKit
set_option maxRecDepth 100000
section
variable {P : Program} {ops : Array Oper} {Q : Exit → Act → World → Prop} {md : Region.Mode}
/-- every operation waits for earlier ones alone -/
def backB (md : Region.Mode) (ops : Array Oper) : Bool := (List.range ops.size).all fun i => ((ops[i]?).map fun o => o.after.all fun e => !Region.binds md e || decide (e.on < i)).getD true
theorem backB_spec (h : backB md ops = true) {i : Nat} {o : Oper} (ho : ops[i]? = some o) : ∀ e ∈ o.after, Region.binds md e = true → e.on < i := by
  have hi : i < ops.size := (Array.getElem?_eq_some_iff.1 ho).1
  have h1 := List.all_eq_true.1 h i (List.mem_range.2 hi)
  rw [ho] at h1
  simp only [Option.map_some, Option.getD_some, Array.all_eq_true_iff_forall_mem, Bool.or_eq_true, Bool.not_eq_true', decide_eq_true_eq] at h1
  intro e he hb
  rcases h1 e he with h2 | h2
  · rw [h2] at hb; cases hb
  · exact h2
theorem listed_all (hB : backB md ops = true) {listed : Array Bool} (hs : listed.size = ops.size) (hr : Region.ready md ops listed = []) : ∀ i, i < ops.size → listed.getD i false = true := by
  intro i
  induction i using Nat.strongRecOn with
  | _ i ih =>
    intro hi
    rcases hl : listed.getD i false with _ | _
    · exfalso
      have hlt : i < listed.size := by omega
      have hm : i ∈ Region.ready md ops listed := mem_ready.2 ⟨by
        rw [Array.getD_eq_getD_getElem?, Array.getElem?_eq_getElem hlt] at hl ⊢
        exact hl, ops[i], Array.getElem?_eq_getElem hi, fun e he hb => by
        have h1 := backB_spec hB (Array.getElem?_eq_getElem hi) e he hb
        exact ih e.on h1 (by omega)⟩
      rw [hr] at hm
      cases hm
    · rfl
theorem wpAny_inv {J : Array Bool → Act → World → Prop} (hB : backB md ops = true)
    (step : ∀ i o, ops[i]? = some o → ∀ listed a w, i ∈ Region.ready md ops listed → J listed a w → wpOp P ops Q i (J (listed.setIfInBounds i true)) a w)
    (fin : ∀ listed a w, (∀ i, i < ops.size → listed.getD i false = true) → J listed a w → Q .normal a w) :
    ∀ (fuel : Nat) (listed : Array Bool) (a : Act) (w : World), listed.size = ops.size → listed.toList.count false ≤ fuel → J listed a w → wpAny P md ops Q fuel listed a w
  | 0, listed, a, w, hs, hf, hJ => by
    have hall : ∀ i, i < ops.size → listed.getD i false = true := fun i hi => by
      have hlt : i < listed.size := by omega
      rcases hl : listed[i] with _ | _
      · exfalso
        have h1 : false ∈ listed.toList := by
          rw [← hl]
          exact Array.getElem_mem_toList hlt
        have h2 := List.count_pos_iff.2 h1
        omega
      · rw [Array.getD_eq_getD_getElem?, Array.getElem?_eq_getElem hlt]
        exact hl
    refine ⟨?_, fin listed a w hall hJ⟩
    rcases hr : Region.ready md ops listed with _ | ⟨j, r⟩
    · rfl
    · exfalso
      have hm : j ∈ Region.ready md ops listed := by rw [hr]; simp
      obtain ⟨h1, o, ho, _⟩ := mem_ready.1 hm
      have hj : j < ops.size := (Array.getElem?_eq_some_iff.1 ho).1
      have h2 := hall j hj
      have hlt : j < listed.size := by omega
      rw [Array.getD_eq_getD_getElem?, Array.getElem?_eq_getElem hlt] at h1 h2
      simp at h1 h2
      rw [h1] at h2
      cases h2
  | fuel + 1, listed, a, w, hs, hf, hJ => by
    refine ⟨fun hr => fin listed a w (listed_all hB hs hr) hJ, fun i hi => ?_⟩
    obtain ⟨h1, o, ho, _⟩ := mem_ready.1 hi
    have hlt : i < listed.size := by have := (Array.getElem?_eq_some_iff.1 ho).1; omega
    have hif : listed[i] = false := by
      rw [Array.getD_eq_getD_getElem?, Array.getElem?_eq_getElem hlt] at h1
      exact h1
    refine wpOp_mono (fun a' w' hJ' => wpAny_inv hB step fin fuel _ a' w' (by simp [hs]) ?_ hJ') (step i o ho listed a w hi hJ)
    have hc : (listed.setIfInBounds i true).toList.count false + 1 = listed.toList.count false := by
      have hmem : false ∈ listed.toList := by rw [← hif]; exact Array.getElem_mem_toList hlt
      have hp := List.count_pos_iff.2 hmem
      rw [Array.toList_setIfInBounds, List.count_set (by simpa using hlt)]
      have e : listed.toList[i]'(by simpa using hlt) = false := by simpa using hif
      rw [e]
      simp only [beq_self_eq_true, if_true, show (true == false) = false from rfl, Bool.false_eq_true, if_false]
      omega
    omega
/-- 'dep' gives what is done before an operation -/
def depB (md : Region.Mode) (ops : Array Oper) (dep : Nat → List Nat) : Bool := (List.range ops.size).all fun i => (dep i).all fun j => ((ops[i]?).map fun o => o.after.any fun e => Region.binds md e && (decide (j = e.on) || (dep e.on).contains j)).getD false
theorem depB_spec {dep : Nat → List Nat} (h : depB md ops dep = true) {i : Nat} {o : Oper} (ho : ops[i]? = some o) {j : Nat} (hj : j ∈ dep i) : ∃ e ∈ o.after, Region.binds md e = true ∧ (j = e.on ∨ j ∈ dep e.on) := by
  have hi : i < ops.size := (Array.getElem?_eq_some_iff.1 ho).1
  have h1 := List.all_eq_true.1 (List.all_eq_true.1 h i (List.mem_range.2 hi)) j hj
  rw [ho] at h1
  simp only [Option.map_some, Option.getD_some, Array.any_eq_true', Bool.and_eq_true, Bool.or_eq_true, decide_eq_true_eq, List.contains_iff_mem] at h1
  exact h1
/-- the act at a region: its own slots hold 'vs' -/
def slots (D : List Nat) (vs : Nat → Value) (t : Array Value) : Array Value := D.foldl (fun t k => t.setIfInBounds k (vs k)) t
def actAt (a : Act) (D : List Nat) (vs : Nat → Value) : Act := { a with tmps := slots D vs a.tmps }
def upd (vs : Nat → Value) : Option Nat → Value → Nat → Value
  | some k, v => fun j => if j = k then v else vs j
  | none, _ => vs
theorem slots_size (vs : Nat → Value) : ∀ (D : List Nat) (t : Array Value), (slots D vs t).size = t.size
  | [], t => rfl
  | k :: D, t => by rw [slots, List.foldl_cons]; exact (slots_size vs D _).trans (by simp)
theorem slots_get (vs : Nat → Value) (j : Nat) : ∀ (D : List Nat) (t : Array Value), (slots D vs t)[j]? = if j ∈ D ∧ j < t.size then some (vs j) else t[j]?
  | [], t => by simp [slots]
  | k :: D, t => by
    rw [slots, List.foldl_cons]
    have h := slots_get vs j D (t.setIfInBounds k (vs k))
    rw [slots] at h
    rw [h, Array.size_setIfInBounds]
    by_cases hD : j ∈ D ∧ j < t.size
    · rw [if_pos hD, if_pos ⟨by simp [hD.1], hD.2⟩]
    · rw [if_neg hD, Array.getElem?_setIfInBounds]
      by_cases hk : k = j
      · subst hk
        by_cases hs : k < t.size
        · rw [if_pos rfl, if_pos hs, if_pos ⟨by simp, hs⟩]
        · rw [if_pos rfl, if_neg hs, if_neg (by omega), Array.getElem?_eq_none (by omega)]
      · rw [if_neg hk]
        by_cases hs : j < t.size
        · rw [if_neg (by simp only [List.mem_cons]; rintro ⟨h1 | h1, _⟩; · exact hk h1.symm
                         · exact hD ⟨h1, hs⟩)]
        · rw [if_neg (by omega)]
theorem actAt_id (a : Act) (D : List Nat) (vs : Nat → Value) (h : ∀ k ∈ D, k < a.tmps.size → a.tmps[k]? = some (vs k)) : actAt a D vs = a := by
  have e : slots D vs a.tmps = a.tmps := Array.ext_getElem? fun j => by
    rw [slots_get]
    split
    · rename_i hj; exact (h j hj.1 hj.2).symm
    · rfl
  rw [actAt, e]
theorem actAt_put (a : Act) (D : List Nat) (vs : Nat → Value) (dst : Option Nat) (v : Value) (h : ∀ k, dst = some k → k ∈ D) : (actAt a D vs).put dst v = actAt a D (upd vs dst v) := by
  cases dst with
  | none => rfl
  | some k =>
    have hk := h k rfl
    have e : (slots D vs a.tmps).setIfInBounds k v = slots D (upd vs (some k) v) a.tmps := Array.ext_getElem? fun j => by
      rw [Array.getElem?_setIfInBounds, slots_get, slots_get, slots_size, upd]
      by_cases hkj : k = j
      · subst hkj
        by_cases hs : k < a.tmps.size
        · simp [hs, hk]
        · simp [hs]
      · have hjk : ¬ j = k := fun e => hkj e.symm
        simp [hkj, hjk]
    show ({ a with tmps := (slots D vs a.tmps).setIfInBounds k v } : Act) = { a with tmps := slots D (upd vs (some k) v) a.tmps }
    rw [e]
/-- slots in order: each operation writes one of D, and none that another one speaks of -/
def slotsB (ops : Array Oper) (D : List Nat) (d : Nat → Nat) (dep : Nat → List Nat) : Bool := (List.range ops.size).all fun i => match ops[i]?.bind (·.dst) with
  | some k => D.contains k && (List.range ops.size).all fun j => decide (j = i) || (dep j).contains i || decide (k ≠ d j)
  | none => true
theorem slotsB_mem {D : List Nat} {d : Nat → Nat} {dep : Nat → List Nat} (h : slotsB ops D d dep = true) {i : Nat} {o : Oper} (ho : ops[i]? = some o) {k : Nat} (hk : o.dst = some k) : k ∈ D ∧ ∀ j, j < ops.size → j ≠ i → i ∉ dep j → k ≠ d j := by
  have hi : i < ops.size := (Array.getElem?_eq_some_iff.1 ho).1
  have h1 := List.all_eq_true.1 h i (List.mem_range.2 hi)
  rw [ho] at h1
  simp only [Option.bind_some, hk, Bool.and_eq_true, List.contains_iff_mem] at h1
  refine ⟨h1.1, fun j hj hji hnd => ?_⟩
  have h2 := List.all_eq_true.1 h1.2 j (List.mem_range.2 hj)
  simp only [Bool.or_eq_true, decide_eq_true_eq, List.contains_iff_mem] at h2
  rcases h2 with (h2 | h2) | h2
  · exact absurd h2 hji
  · exact absurd h2 hnd
  · exact h2
/-- one operation, at what is known ahead of it -/
def StepAt (P : Program) (ops : Array Oper) (Q : Exit → Act → World → Prop) (B : Nat) (w0 : World) (a : Act) (D : List Nat) (d : Nat → Nat) (dep : Nat → List Nat) (G : Nat → Value → World → Prop) (i : Nat) (o : Oper) : Prop :=
  ∀ vs w, Below B w0 w → (∀ j ∈ dep i, G j (vs (d j)) w) → ∀ K : Act → World → Prop,
    (∀ v w', Below B w0 w' → G i (upd vs o.dst v (d i)) w' → (∀ j, j < ops.size → j ≠ i → i ∉ dep j → G j (vs (d j)) w → G j (vs (d j)) w') → K ((actAt a D vs).put o.dst v) w') →
    if Region.wanted o (yielded ops (actAt a D vs).tmps) = true then Oper.wp P o (actAt a D vs) w K Q else K ((actAt a D vs).put o.dst undef) w
theorem wp_region_inv {id : Nat} {a : Act} {w : World} (B : Nat) (w0 : World) (D : List Nat) (d : Nat → Nat) (dep : Nat → List Nat) (G : Nat → Value → World → Prop) (hm : P.follows .mixedOrders = true)
    (hB : (backB .any ops && depB .any ops dep && slotsB ops D d dep) = true) (h0 : Below B w0 w.drew)
    (step : ∀ i o, ops[i]? = some o → StepAt P ops Q B w0 a D d dep G i o)
    (fin : ∀ vs w, Below B w0 w → (∀ i, i < ops.size → G i (vs (d i)) w) → Q .normal (actAt a D vs) w) : (Code.region id ops true).wp P Q a w := by
  simp only [Bool.and_eq_true] at hB
  obtain ⟨⟨hB, hD⟩, hC⟩ := hB
  refine wp_region_any hm (wpAny_inv (J := fun listed a' w => ∃ vs, a' = actAt a D vs ∧ Below B w0 w ∧ (∀ j, j < ops.size → listed.getD j false = true → G j (vs (d j)) w) ∧ (∀ j, listed.getD j false = true → ∀ k ∈ dep j, listed.getD k false = true)) hB ?_ ?_ _ _ _ _ (by simp) (by simp) ⟨fun k => a.tmps.getD k undef, ?_, h0, ?_, ?_⟩)
  · rintro i o ho listed _ w hi ⟨vs, rfl, hb, hF, hC'⟩
    obtain ⟨h1, o', ho', hall⟩ := mem_ready.1 hi
    have hlt : i < ops.size := (Array.getElem?_eq_some_iff.1 ho).1
    have hunl : listed.getD i false = true → False := fun h => by
      rw [Array.getD_eq_getD_getElem?] at h h1
      rcases hx : listed[i]? with _ | x
      · rw [hx] at h; cases h
      · rw [hx] at h h1; simp at h h1; rw [h] at h1; cases h1
    have hdep : ∀ j ∈ dep i, listed.getD j false = true := fun j hj => by
      obtain ⟨e, he, hb, h2⟩ := depB_spec hD ho' hj
      have h3 := hall e he hb
      rcases h2 with rfl | h2
      · exact h3
      · exact hC' _ h3 _ h2
    have hlow : ∀ (n m : Nat), m < n → n ≤ ops.size → ∀ j ∈ dep m, j < m := by
      intro n
      induction n with
      | zero => intro m hm; omega
      | succ n ih =>
        intro m hm hn j hj
        rcases ho3 : ops[m]? with _ | o3
        · rw [Array.getElem?_eq_none_iff] at ho3; omega
        · obtain ⟨e3, he3, hb3, h5⟩ := depB_spec hD ho3 hj
          have h6 := backB_spec hB ho3 e3 he3 hb3
          rcases h5 with rfl | h5
          · exact h6
          · have := ih e3.on (by omega) (by omega) j h5
            omega
    have hsz : ∀ j ∈ dep i, j < ops.size := fun j hj => by have := hlow ops.size i hlt (Nat.le_refl _) j hj; omega
    refine wpOp_step ho fun K hK => step i o ho vs w hb (fun j hj => hF j (hsz j hj) (hdep j hj)) K fun v w' hb' hG hkeep => hK _ _ ⟨upd vs o.dst v, ?_, hb', fun j hj hl => ?_, fun j hl k hk => ?_⟩
    · exact actAt_put a D vs o.dst v fun k hk => (slotsB_mem hC ho hk).1
    · by_cases hji : j = i
      · subst hji; exact hG
      · have hl' : listed.getD j false = true := by rw [getD_set_ne false (Ne.symm hji)] at hl; exact hl
        have hnd : i ∉ dep j := fun h => hunl (hC' j hl' i h)
        have h5 := hkeep j hj hji hnd (hF j hj hl')
        have e : upd vs o.dst v (d j) = vs (d j) := by
          rcases hk : o.dst with _ | k
          · rfl
          · have := (slotsB_mem hC ho hk).2 j hj hji hnd
            exact if_neg (Ne.symm this)
        rw [e]
        exact h5
    · by_cases hji : j = i
      · subst hji; exact getD_set_true (hdep k hk)
      · exact getD_set_true (hC' j (by rw [getD_set_ne false (Ne.symm hji)] at hl; exact hl) k hk)
  · rintro listed _ w hall ⟨vs, rfl, hb, hF, _⟩
    exact fin vs w hb (fun i hi => hF i hi (hall i hi))
  · refine (actAt_id a D _ fun k _ hk => ?_).symm
    rw [Array.getD_eq_getD_getElem?, Array.getElem?_eq_getElem hk]
    rfl
  · intro j _ hl
    rw [getD_replicate_false] at hl
    cases hl
  · intro j hl
    rw [getD_replicate_false] at hl
    cases hl
/-- the operations, one after another -/
def StepsFrom (St : Nat → Oper → Prop) (k : Nat) (l : List Oper) : Prop := ∀ j o, l[j]? = some o → St (k + j) o
theorem StepsFrom.nil {St : Nat → Oper → Prop} {k : Nat} : StepsFrom St k [] := fun j o h => by simp at h
theorem StepsFrom.cons {St : Nat → Oper → Prop} {k : Nat} {o : Oper} {l : List Oper} (h : St k o) (h' : StepsFrom St (k + 1) l) : StepsFrom St k (o :: l)
  | 0, _, e => by simp at e; subst e; exact h
  | j + 1, o', e => by
    have := h' j o' (by simpa using e)
    rw [show k + (j + 1) = k + 1 + j by omega]
    exact this
theorem steps_of {St : Nat → Oper → Prop} {l : List Oper} (h : StepsFrom St 0 l) : ∀ i o, (⟨l⟩ : Array Oper)[i]? = some o → St i o := fun i o ho => by
  have := h i o (by simpa using ho)
  rwa [Nat.zero_add] at this
/-- what is known of an operation stays, where nothing below the world's end changes -/
def Calm (G : Nat → Value → World → Prop) : Prop := ∀ j v w w', Below w.heap.size w w' → G j v w → G j v w'
end
end Go.Proofs.Ytnabpefjcgehiaa
/- Regions by an invariant, 2: what stays as it was where a region makes struct variables and stores into them. -/
namespace Go.Proofs.Ytnabpefjcgehiaa
open Go.ChangeShapes Go.WideShapes Go.ChangeAt Go.RowKit
set_option maxRecDepth 100000
/-- the block g is written whole, all else stays -/
def StoreOf (w w' : World) (g : Nat) (T : TypeId) : Prop := ∃ cs cs', w.heap[g]? = some (.cells cs T (0, 0)) ∧ w'.heap[g]? = some (.cells cs' T (0, 0)) ∧ cs'.size = cs.size ∧ w.grownBy w' (some g)
/-- a step: what is there stays, or one block of the types TS is written -/
def Moved (TS : List TypeId) (w w' : World) : Prop := Below w.heap.size w w' ∨ ∃ g T, T ∈ TS ∧ StoreOf w w' g T
def Firm (TS : List TypeId) (Pr : World → Prop) : Prop := ∀ w w', Moved TS w w' → Pr w → Pr w'
theorem firm_const {TS : List TypeId} (p : Prop) : Firm TS (fun _ => p) := fun _ _ _ h => h
theorem firm_and {TS : List TypeId} {p q : World → Prop} (hp : Firm TS p) (hq : Firm TS q) : Firm TS (fun w => p w ∧ q w) := fun w w' h ⟨a, b⟩ => ⟨hp w w' h a, hq w w' h b⟩
theorem firm_ex {TS : List TypeId} {α : Sort _} {p : α → World → Prop} (hp : ∀ x, Firm TS (p x)) : Firm TS (fun w => ∃ x, p x w) := fun w w' h ⟨x, a⟩ => ⟨x, hp x w w' h a⟩
theorem own_apart {α : Type} {w : World} {base : Nat} {e t : TypeId} {size : Nat} {en : α → List Value} {v : Value} {l : List α} {cs : Array Value} {g' : Nat} (h : OwnL w base e size en v l) (hr : w.heap[g']? = some (.cells cs t (0, 0))) (hte : t ≠ e) : v.ownBlock ≠ some g' := by
  intro hg
  obtain ⟨_, h2⟩ := h
  rcases h2 with ⟨rfl, _⟩ | ⟨g2, cap, cur, rfl, _, hb, _⟩
  · cases hg
  · have e1 : g2 = g' := Option.some.inj hg
    subst e1
    rw [hr] at hb
    injection hb with hb
    injection hb with _ hb _
    exact hte hb
theorem firm_own {TS : List TypeId} {α : Type} {base : Nat} {e : TypeId} {size : Nat} {en : α → List Value} {v : Value} {l : List α} (he : e ∉ TS) : Firm TS (fun w => OwnL w base e size en v l) := by
  intro w w' hm h
  rcases hm with hm | ⟨g, T, hT, cs, cs', h1, h2, h3, h4⟩
  · exact OwnL.below h hm (Nat.le_refl _)
  · exact OwnL.kept h h4 (.inr (own_apart h h1 (fun e9 => he (e9 ▸ hT))))
def BlkG (B : Nat) (T : TypeId) (n : Nat) (v : Value) (w : World) : Prop := ∃ (g : Nat) (cs : Array Value), v = .pointer (some ⟨g, 0, none⟩) ∧ B ≤ g ∧ w.heap[g]? = some (.cells cs T (0, 0)) ∧ cs.size = n
def FinG (B : Nat) (T : TypeId) (Pr : Array Value → World → Prop) (v : Value) (w : World) : Prop := ∃ (g : Nat) (cs : Array Value), v = .pointer (some ⟨g, 0, none⟩) ∧ B ≤ g ∧ w.heap[g]? = some (.cells cs T (0, 0)) ∧ Pr cs w
theorem firm_blk {TS : List TypeId} {B : Nat} {T : TypeId} {n : Nat} {v : Value} : Firm TS (BlkG B T n v) := by
  rintro w w' hm ⟨g, cs, rfl, hB, hg, hn⟩
  have hlt : g < w.heap.size := (Array.getElem?_eq_some_iff.1 hg).1
  rcases hm with hm | ⟨g2, T2, hT, cs2, cs', h1, h2, h3, h4⟩
  · exact ⟨g, cs, rfl, hB, (hm.block g hlt).trans hg, hn⟩
  · by_cases he : g = g2
    · subst he
      rw [hg] at h1
      injection h1 with h1
      injection h1 with e1 e2 _
      subst e1 e2
      exact ⟨g, cs', rfl, hB, h2, h3.trans hn⟩
    · exact ⟨g, cs, rfl, hB, (h4.block g hlt (fun e => he (Option.some.inj e))).trans hg, hn⟩
theorem firm_fin {TS : List TypeId} {B : Nat} {T : TypeId} {Pr : Array Value → World → Prop} {v : Value} (hT : T ∉ TS) (hP : ∀ cs, Firm TS (Pr cs)) : Firm TS (FinG B T Pr v) := by
  rintro w w' hm ⟨g, cs, rfl, hB, hg, hp⟩
  have hlt : g < w.heap.size := (Array.getElem?_eq_some_iff.1 hg).1
  refine ⟨g, cs, rfl, hB, ?_, hP cs w w' hm hp⟩
  rcases hm with hm | ⟨g2, T2, hT2, cs2, cs', h1, h2, h3, h4⟩
  · exact (hm.block g hlt).trans hg
  · by_cases he : g = g2
    · subst he
      rw [hg] at h1
      injection h1 with h1
      injection h1 with e1 e2 _
      subst e2
      exact absurd hT2 hT
    · exact (h4.block g hlt (fun e => he (Option.some.inj e))).trans hg
theorem moved_refl {TS : List TypeId} (w : World) : Moved TS w w := .inl (Below.refl _ _)
theorem grown_sets (w : World) (g : Nat) (l : List (Nat × Value)) : ∀ w', w.grownBy w' (some g) → w.grownBy (l.foldl (fun w x => w.setCell ⟨g, x.1, none⟩ x.2) w') (some g) := by
  induction l with
  | nil => intro w' h; exact h
  | cons x l ih =>
    intro w' h
    refine ih _ ⟨h.os, h.tape, h.output, by simpa [World.setCell] using h.size, fun i hi hne => (Below.heap_setCell w' ⟨g, x.1, none⟩ x.2 i (by intro e; subst e; exact hne rfl)).trans (h.block i hi hne)⟩
/-- a block of five cells is written whole -/
theorem store5 {w : World} {g : Nat} {T : TypeId} {cs : Array Value} (a b c d e : Value) (h : w.heap[g]? = some (.cells cs T (0, 0))) (hn : cs.size = 5) :
    (((((w.setCell ⟨g, 0, none⟩ a).setCell ⟨g, 1, none⟩ b).setCell ⟨g, 2, none⟩ c).setCell ⟨g, 3, none⟩ d).setCell ⟨g, 4, none⟩ e).heap[g]? = some (.cells #[a, b, c, d, e] T (0, 0)) ∧
    StoreOf w (((((w.setCell ⟨g, 0, none⟩ a).setCell ⟨g, 1, none⟩ b).setCell ⟨g, 2, none⟩ c).setCell ⟨g, 3, none⟩ d).setCell ⟨g, 4, none⟩ e) g T := by
  obtain ⟨l⟩ := cs
  match l, hn with
  | [x0, x1, x2, x3, x4], _ =>
    have h0 := heap_setCell_same w g 0 _ _ a h
    have h1 := heap_setCell_same _ g 1 _ _ b h0
    have h2 := heap_setCell_same _ g 2 _ _ c h1
    have h3 := heap_setCell_same _ g 3 _ _ d h2
    have h4 := heap_setCell_same _ g 4 _ _ e h3
    exact ⟨h4, _, _, h, h4, rfl, grown_sets w g [(0, a), (1, b), (2, c), (3, d), (4, e)] w ⟨rfl, rfl, rfl, Nat.le_refl _, fun _ _ _ => rfl⟩⟩
section
variable {P : Program} {ops : Array Oper} {Q : Exit → Act → World → Prop}
theorem step_moved {B : Nat} {w0 : World} {a : Act} {D : List Nat} {d : Nat → Nat} {dep : Nat → List Nat} {G : Nat → Value → World → Prop} {i : Nat} {o : Oper} (TS : List TypeId)
    (hfirm : ∀ j, j ≠ i → i ∉ dep j → ∀ v, Firm TS (G j v))
    (h : ∀ vs w, Below B w0 w → (∀ j ∈ dep i, G j (vs (d j)) w) → ∀ K : Act → World → Prop,
      (∀ v w', Below B w0 w' → Moved TS w w' → G i (upd vs o.dst v (d i)) w' → K ((actAt a D vs).put o.dst v) w') →
      if Region.wanted o (yielded ops (actAt a D vs).tmps) = true then Oper.wp P o (actAt a D vs) w K Q else K ((actAt a D vs).put o.dst undef) w) : StepAt P ops Q B w0 a D d dep G i o :=
  fun vs w hb hd K hK => h vs w hb hd K fun v w' hb' hm hG => hK v w' hb' hG fun j _ hji hnd hj => hfirm j hji hnd _ _ _ hm hj
end
end Go.Proofs.Ytnabpefjcgehiaa
