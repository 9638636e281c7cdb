/- Plain functions and plain laws: what the program and the reference compute. No program in sight. -/
import Derived.PlainAid
import GoSem.Op.String
namespace Go.Proofs.YtabbgabdbkbjcaaDoor.Pu

/-! ## Bytes and names -/
def letterI (b : Int) (first : Bool) : Bool := (decide (97 ≤ b) && decide (b ≤ 122)) || (!first && decide (48 ≤ b) && decide (b ≤ 57))
def lettersF : Bool → List UInt8 → Bool
  | _, [] => true
  | first, b :: r => letterI b.toNat first && lettersF false r
def nameL (l : List UInt8) : Bool := decide (0 < l.length) && decide (l.length ≤ 8) && lettersF true l
theorem letterI_mono {b : Int} (h : letterI b true = true) : letterI b false = true := by simp [letterI] at *; omega
theorem nameL_alt (b : UInt8) (r : List UInt8) : nameL (b :: r) = (decide (r.length + 1 ≤ 8) && letterI b.toNat true && lettersF false (b :: r)) := by
  have h := @letterI_mono b.toNat
  simp only [nameL, lettersF, List.length_cons]
  cases h1 : letterI b.toNat true <;> simp_all
def isNum (n : Int) : Bool := decide (0 ≤ n) && decide (n ≤ 999)

/-! ## Faces -/
def faceB (f : Int) : Bool := decide (0 ≤ f) && decide (f ≤ 63)
def hasB (f : Int) (k : Int) : Bool := (f / 2 ^ k.toNat) % 2 == 1
/-- from bit k on, n more bits: no bit of g that f lacks -/
def offTo (f g : Int) : Nat → Nat → Bool
  | _, 0 => true
  | k, n + 1 => if hasB g k then (if hasB f k then offTo f g (k+1) n else false) else offTo f g (k+1) n
def offersB (f g : Int) : Bool := faceB f && faceB g && offTo f g 0 6
theorem offTo_iff (f g : Int) : ∀ (n k : Nat), offTo f g k n = true ↔ ∀ j, k ≤ j → j < k + n → hasB g j = true → hasB f j = true
  | 0, k => by simp [offTo]; omega
  | n + 1, k => by
    have ih := offTo_iff f g n (k + 1)
    unfold offTo
    by_cases hg : hasB g k = true
    · by_cases hf : hasB f k = true
      · rw [if_pos hg, if_pos hf, ih]
        constructor
        · intro h j h1 h2 h3
          by_cases hj : j = k
          · subst hj; exact hf
          · exact h j (by omega) (by omega) h3
        · intro h j h1 h2 h3
          exact h j (by omega) (by omega) h3
      · rw [if_pos hg, if_neg hf]
        constructor
        · intro h; cases h
        · intro h; exact absurd (h k (by omega) (by omega) hg) hf
    · rw [if_neg hg, ih]
      constructor
      · intro h j h1 h2 h3
        by_cases hj : j = k
        · subst hj; exact absurd h3 hg
        · exact h j (by omega) (by omega) h3
      · intro h j h1 h2 h3
        exact h j (by omega) (by omega) h3
theorem offersB_iff {f g : Int} : offersB f g = true ↔ faceB f = true ∧ faceB g = true ∧ ∀ j : Nat, j < 6 → hasB g j = true → hasB f j = true := by
  unfold offersB
  rw [Bool.and_eq_true, Bool.and_eq_true, offTo_iff]
  constructor
  · rintro ⟨⟨h1, h2⟩, h3⟩
    exact ⟨h1, h2, fun j hj h => h3 j (by omega) (by omega) h⟩
  · rintro ⟨h1, h2, h3⟩
    exact ⟨⟨h1, h2⟩, fun j _ hj h => h3 j (by omega) h⟩
theorem offersB_refl {f : Int} (h : faceB f = true) : offersB f f = true := offersB_iff.2 ⟨h, h, fun _ _ hh => hh⟩
theorem offersB_trans {a b c : Int} (h1 : offersB a b = true) (h2 : offersB b c = true) : offersB a c = true := by
  rw [offersB_iff] at *
  exact ⟨h1.1, h2.2.1, fun j hj h => h1.2.2 j hj (h2.2.2 j hj h)⟩
theorem nat_of_faceB {f : Int} (h : faceB f = true) : ∃ n : Nat, f = (n : Int) ∧ n < 64 := by
  simp [faceB] at h
  exact ⟨f.toNat, by omega, by omega⟩
theorem offers_anti : ∀ a : Nat, a < 64 → ∀ b : Nat, b < 64 → offersB a b = true → offersB b a = true → a = b := by decide +kernel
theorem offersB_anti {a b : Int} (h1 : offersB a b = true) (h2 : offersB b a = true) : a = b := by
  obtain ⟨n, rfl, hn⟩ := nat_of_faceB (offersB_iff.1 h1).1
  obtain ⟨m, rfl, hm⟩ := nat_of_faceB (offersB_iff.1 h1).2.1
  rw [offers_anti n hn m hm h1 h2]
theorem offers_zero : ∀ a : Nat, a < 64 → offersB a 0 = true := by decide +kernel
theorem offers_all : ∀ a : Nat, a < 64 → offersB 63 a = true := by decide +kernel
theorem offersB_zero {a : Int} (h : faceB a = true) : offersB a 0 = true := by
  obtain ⟨n, rfl, hn⟩ := nat_of_faceB h
  exact offers_zero n hn
theorem offersB_all {a : Int} (h : faceB a = true) : offersB 63 a = true := by
  obtain ⟨n, rfl, hn⟩ := nat_of_faceB h
  exact offers_all n hn
theorem offersB_no {a b : Int} (h : ¬ (faceB a = true ∧ faceB b = true)) : offersB a b = false := by
  rw [Bool.eq_false_iff]
  intro hh
  rw [offersB_iff] at hh
  exact h ⟨hh.1, hh.2.1⟩

/-- the face of all abilities below k of which p says yes -/
def acc (p : Bool → Bool → Bool) (a b : Int) : Nat → Nat
  | 0 => 0
  | k + 1 => if p (hasB a k) (hasB b k) then acc p a b k + 2 ^ k else acc p a b k
theorem acc_lt (p : Bool → Bool → Bool) (a b : Int) : ∀ k, acc p a b k < 2 ^ k
  | 0 => by simp [acc]
  | k + 1 => by
    have h := acc_lt p a b k
    have h2 : 2 ^ (k + 1) = 2 ^ k + 2 ^ k := by rw [Nat.pow_succ]; omega
    unfold acc
    split <;> omega
theorem acc_step (p : Bool → Bool → Bool) (a b : Int) (k : Nat) : (acc p a b (k + 1) : Int) = (acc p a b k : Int) + if p (hasB a k) (hasB b k) then 2 ^ k else 0 := by
  rw [acc]; split <;> simp
theorem acc_bd (p : Bool → Bool → Bool) (a b : Int) {k : Nat} (h : k ≤ 6) : (acc p a b k : Int) ≤ 63 := by
  have h1 := acc_lt p a b k
  have h2 : 2 ^ k ≤ 64 := by
    have : (2 : Nat) ^ 6 = 64 := by decide
    rw [← this]
    exact Nat.pow_le_pow_right (by omega) h
  omega
theorem two_bd {k : Nat} (h : k < 6) : 0 ≤ (2 : Int) ^ k ∧ (2 : Int) ^ k ≤ 32 := by
  match k, h with
  | 0, _ | 1, _ | 2, _ | 3, _ | 4, _ | 5, _ => decide
def hows (how : Int) (x y : Bool) : Bool := if how = 0 then x && y else if how = 1 then x || y else x && !y
def made (a b how : Int) : Int := if faceB a && faceB b then (acc (hows how) a b 6 : Int) else 0
/-- how many abilities below k -/
def cnt (f : Int) : Nat → Nat
  | 0 => 0
  | k + 1 => if hasB f k then cnt f k + 1 else cnt f k
theorem cnt_le (f : Int) : ∀ k, cnt f k ≤ k
  | 0 => Nat.le_refl _
  | k + 1 => by
    have := cnt_le f k
    unfold cnt; split <;> omega
def countF (f : Int) : Int := if faceB f then (cnt f 6 : Int) else 0

/-- the faces below k that f offers -/
def under (f : Int) : Nat → List Int
  | 0 => []
  | k + 1 => if offersB f k then under f k ++ [(k : Int)] else under f k
theorem under_len (f : Int) : ∀ k, (under f k).length ≤ k
  | 0 => Nat.le_refl _
  | k + 1 => by
    have := under_len f k
    unfold under; split <;> simp <;> omega

def marks : Int → Nat → List Int
  | _, 0 => []
  | k, n + 1 => k :: marks (k + 1) n
theorem marks_len : ∀ (k : Int) (n : Nat), (marks k n).length = n
  | _, 0 => rfl
  | k, n + 1 => by rw [marks, List.length_cons, marks_len]
theorem marks_at : ∀ (k : Int) (n i : Nat), i < n → (marks k n)[i]? = some (k + i)
  | _, 0, _, h => by omega
  | k, n + 1, 0, _ => by simp [marks]
  | k, n + 1, i + 1, h => by
    rw [marks, List.getElem?_cons_succ, marks_at (k + 1) n i (by omega)]
    congr 1; omega
/-- what lies in a row while it is marked: i marks, and then what was there -/
theorem marks_set {l : List Int} {k : Int} {i : Nat} (h : i < l.length) : (marks k i ++ l.drop i).set i (k + i) = marks k (i + 1) ++ l.drop (i + 1) := by
  apply List.ext_getElem?
  intro j
  rw [List.getElem?_set]
  by_cases hj : i = j
  · subst hj
    rw [if_pos rfl, if_pos (by simp [marks_len]; omega), List.getElem?_append_left (by rw [marks_len]; omega), marks_at _ _ _ (by omega)]
  · rw [if_neg hj]
    by_cases hl : j < i
    · rw [List.getElem?_append_left (by rw [marks_len]; omega), List.getElem?_append_left (by rw [marks_len]; omega), marks_at _ _ _ hl, marks_at _ _ _ (by omega)]
    · rw [List.getElem?_append_right (by rw [marks_len]; omega), List.getElem?_append_right (by rw [marks_len]; omega), marks_len, marks_len, List.getElem?_drop, List.getElem?_drop]
      congr 1; omega

/-! ## Methods -/
def hasT : List ByteArray → List UInt8 → Bool
  | [], _ => false
  | x :: r, s => if x.toList == s then true else hasT r s
def meth : Nat → List (List UInt8)
  | 0 => [[83, 116, 97, 114, 116], [83, 116, 111, 112]]
  | 1 => [[71, 101, 116], [80, 117, 116]]
  | 2 => [[84, 101, 108, 108]]
  | 3 => [[72, 101, 97, 114]]
  | 4 => [[76, 111, 97, 100], [83, 97, 118, 101]]
  | 5 => [[72, 101, 97, 108]]
  | _ => []
def methB (k : Nat) : List ByteArray := (meth k).map fun l => ⟨l.toArray⟩

def abFrom (s : List UInt8) : Nat → Nat → Int
  | _, 0 => -1
  | k, n + 1 => if hasT (methB k) s then (k : Int) else abFrom s (k + 1) n
def abOf (s : List UInt8) : Int := abFrom s 0 6
theorem abFrom_bd (s : List UInt8) : ∀ n k, -1 ≤ abFrom s k n ∧ abFrom s k n < k + n
  | 0, k => by simp [abFrom]; omega
  | n + 1, k => by
    have h := abFrom_bd s n (k + 1)
    unfold abFrom
    split <;> omega
theorem abOf_bd (s : List UInt8) : -1 ≤ abOf s ∧ abOf s ≤ 5 := by
  have := abFrom_bd s 6 0
  unfold abOf; omega
def wantF (s : List UInt8) : Int := if abOf s < 0 then 0 else 2 ^ (abOf s).toNat
/-- the face of the abilities below k all of whose methods are in the list -/
def allIn (l : List ByteArray) : List ByteArray → Bool
  | [] => true
  | m :: r => hasT l m.toList && allIn l r
def faceOf (l : List ByteArray) : Nat → Nat
  | 0 => 0
  | k + 1 => if allIn l (methB k) then faceOf l k + 2 ^ k else faceOf l k
theorem faceOf_lt (l : List ByteArray) : ∀ k, faceOf l k < 2 ^ k
  | 0 => by simp [faceOf]
  | k + 1 => by
    have h := faceOf_lt l k
    have h2 : 2 ^ (k + 1) = 2 ^ k + 2 ^ k := by rw [Nat.pow_succ]; omega
    unfold faceOf
    split <;> omega
theorem faceOf_bd (l : List ByteArray) {k : Nat} (h : k ≤ 6) : (faceOf l k : Int) ≤ 63 := by
  have h1 := faceOf_lt l k
  have h2 : 2 ^ k ≤ 64 := by
    have : (2 : Nat) ^ 6 = 64 := by decide
    rw [← this]
    exact Nat.pow_le_pow_right (by omega) h
  omega
theorem faceOf_step (l : List ByteArray) (k : Nat) : (faceOf l (k + 1) : Int) = (faceOf l k : Int) + if allIn l (methB k) then 2 ^ k else 0 := by
  rw [faceOf]; split <;> simp

theorem set_mid {β : Type} {P Z : List β} {k : Nat} {x : β} (hx : P[k]? = some x) (h : P.length = Z.length) : (P.take k ++ Z.drop k).set k x = P.take (k + 1) ++ Z.drop (k + 1) := by
  obtain ⟨hk, rfl⟩ := List.getElem?_eq_some_iff.1 hx
  rw [List.set_append_right _ _ (by rw [List.length_take]; omega), List.length_take, Nat.min_eq_left (by omega), Nat.sub_self, List.drop_eq_getElem_cons (by omega : k < Z.length), List.set_cons_zero,
    List.take_succ_eq_append_getElem hk, List.append_assoc]
  rfl
theorem mid_at {β : Type} {P Z : List β} {k : Nat} (hk : k < Z.length) (h : P.length = Z.length) : (P.take k ++ Z.drop k)[k]? = some Z[k] := by
  rw [List.getElem?_append_right (by rw [List.length_take]; omega), List.length_take, Nat.min_eq_left (by omega), Nat.sub_self, List.getElem?_drop]
  simp

/-! ## Sizes -/
def tot : List ByteArray → Nat
  | [] => 0
  | x :: r => x.size + tot r
theorem tot_app (a b : List ByteArray) : tot (a ++ b) = tot a + tot b := by
  induction a with
  | nil => simp [tot]
  | cons x r ih => simp [tot, ih]; omega
theorem tot_take_succ {l : List ByteArray} {k : Nat} {x : ByteArray} (h : l[k]? = some x) : tot (l.take (k + 1)) = tot (l.take k) + x.size := by
  rw [List.take_add_one, h, tot_app]; simp [tot]
theorem tot_take_le (l : List ByteArray) (k : Nat) : tot (l.take k) ≤ tot l := by
  conv => rhs; rw [← List.take_append_drop k l, tot_app]
  omega
theorem tot_mem {l : List ByteArray} {x : ByteArray} (h : x ∈ l) : x.size ≤ tot l := by
  induction l with
  | nil => cases h
  | cons y r ih =>
    simp only [tot]
    rcases List.mem_cons.1 h with rfl | h
    · omega
    · have := ih h; omega
def szStr (l : List ByteArray) (left : Int) : Int := if (l.length + tot l : Int) ≤ left then left - (l.length + tot l) else -1

/-! ## Data -/
structure CellD where
  key : ByteArray
  val : Int
structure CoreD where
  kind : ByteArray
  on : Bool
  broken : Bool
  cells : List CellD
  count : Int
structure CallD where
  method : ByteArray
  key : ByteArray
  value : Int
  text : ByteArray
structure ReplyD where
  code : Int
  value : Int
  text : ByteArray
  want : Int
  had : Int
structure LayerD where
  name : ByteArray
  count : Int
structure PartD where
  core : CoreD
  layers : List LayerD

/-! ## Cells -/
/-- ascending keys behind p (if there is one), names, numbers -/
def keyB : Option ByteArray → ByteArray → Bool
  | none, _ => true
  | some p, k => Op.bytesLess p.toList k.toList
def cellsFrom : Option ByteArray → List CellD → Bool
  | _, [] => true
  | p, c :: r => nameL c.key.toList && isNum c.val && keyB p c.key && cellsFrom (some c.key) r
def cellsB (l : List CellD) : Bool := decide (l.length ≤ 4) && cellsFrom none l

/-! ## Kinds and adapters -/
def look {α : Type} : List (List UInt8 × α) → List UInt8 → Option α
  | [], _ => none
  | (n, x) :: r, s => if s == n then some x else look r s
theorem look_hit {α : Type} {n : List UInt8} {x : α} {r : List (List UInt8 × α)} {s : List UInt8} (h : (n == s) = true) : look ((n, x) :: r) s = some x := by
  simp at h; subst h; simp [look]
theorem look_miss {α : Type} {n : List UInt8} {x : α} {r : List (List UInt8 × α)} {s : List UInt8} (h : (n == s) = false) : look ((n, x) :: r) s = look r s := by
  rw [look, if_neg]; simp at h ⊢; exact fun e => h e.symm
def kinds : List (List UInt8 × Int) := [([115, 116, 111, 110, 101], 0), ([108, 97, 109, 112], 1), ([115, 104, 101, 108, 102], 2), ([109, 101, 116, 101, 114], 5), ([100, 114, 97, 119, 101, 114], 3), ([104, 111, 114, 110], 9), ([118, 97, 117, 108, 116], 19), ([114, 111, 98, 111, 116], 63)]
def kindF (s : List UInt8) : Int := (look kinds s).getD 0
def kindOk (s : List UInt8) : Bool := (look kinds s).isSome
theorem kind_of {s : List UInt8} {x : Int} (h : look kinds s = some x) : x = kindF s ∧ true = kindOk s := by simp [kindF, kindOk, h]
theorem kind_none {s : List UInt8} (h : look kinds s = none) : 0 = kindF s ∧ false = kindOk s := by simp [kindF, kindOk, h]
def layers : List (List UInt8 × (Int × Int)) := [([112, 108, 97, 105, 110], (0, 0)), ([114, 117, 110, 115], (1, 1)), ([107, 101, 101, 112, 115], (2, 2)), ([99, 111, 117, 110, 116, 115], (2, 6)), ([108, 97, 122, 121], (3, 3)), ([114, 101, 97, 100, 115], (2, 2)), ([104, 101, 97, 114, 115], (1, 9)), ([104, 101, 97, 108, 115], (1, 33)), ([116, 119, 105, 99, 101], (4, 4))]
def layN (s : List UInt8) : Int := ((look layers s).getD (0, 0)).1
def layG (s : List UInt8) : Int := ((look layers s).getD (0, 0)).2
def layOk (s : List UInt8) : Bool := (look layers s).isSome
theorem lay_of {s : List UInt8} {x y : Int} (h : look layers s = some (x, y)) : x = layN s ∧ y = layG s ∧ true = layOk s := by simp [layN, layG, layOk, h]
theorem lay_none {s : List UInt8} (h : look layers s = none) : 0 = layN s ∧ 0 = layG s ∧ false = layOk s := by simp [layN, layG, layOk, h]
end Go.Proofs.YtabbgabdbkbjcaaDoor.Pu
