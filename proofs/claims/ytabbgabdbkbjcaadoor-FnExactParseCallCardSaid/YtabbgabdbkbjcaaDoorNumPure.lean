/- Numbers as texts, in plain Lean. -/
import Derived.PlainAid
import Derived.Lib.ItoaNum
import Derived.Lib.Atoi
import Derived.Lib.Strings
namespace Go.Proofs.YtabbgabdbkbjcaaDoor.Pu
def numB (n : Int) : ByteArray := ⟨(Lib.itoa n).toArray⟩
/-- the numeral of a number below a thousand -/
def numK (n : Nat) : List UInt8 := if n < 10 then [UInt8.ofNat (48 + n)] else if n < 100 then [UInt8.ofNat (48 + n / 10), UInt8.ofNat (48 + n % 10)] else [UInt8.ofNat (48 + n / 100), UInt8.ofNat (48 + n / 10 % 10), UInt8.ofNat (48 + n % 10)]
theorem dec_K {n : Nat} (h : n < 1000) : Lib.decDigits n = numK n := by
  unfold numK
  by_cases h1 : n < 10
  · rw [if_pos h1, Lib.decDigits_one h1]
  · by_cases h2 : n < 100
    · rw [if_neg h1, if_pos h2, Lib.decDigits_two h1 h2]
    · rw [if_neg h1, if_neg h2, Lib.decDigits, dif_neg h1, Lib.decDigits_two (by omega) (by omega)]
      rw [Nat.div_div_eq_div_mul]
      rfl
theorem itoa_K {n : Nat} (h : n < 1000) : Lib.itoa (n : Int) = numK n := by
  unfold Lib.itoa
  rw [if_neg (by omega), Int.toNat_natCast, dec_K h]
theorem numK_len (n : Nat) : 1 ≤ (numK n).length ∧ (numK n).length ≤ 3 := by
  unfold numK
  split
  · simp
  · split <;> simp
/-- what the digits spell, any byte taken for a digit -/
def hor : Int → List UInt8 → Int
  | a, [] => a
  | a, b :: r => hor (10 * a + b.toNat - 48) r
theorem hor_app : ∀ (l m : List UInt8) (a : Int), hor a (l ++ m) = hor (hor a l) m
  | [], _, _ => rfl
  | b :: r, m, a => by rw [List.cons_append, hor, hor, hor_app r m]
theorem hor_bd : ∀ l : List UInt8, l.length ≤ 4 → -100000 ≤ hor 0 l ∧ hor 0 l ≤ 1000000
  | [], _ => by simp [hor]
  | [a], _ => by have := a.toNat_lt; simp [hor]; omega
  | [a, b], _ => by have := a.toNat_lt; have := b.toNat_lt; simp [hor]; omega
  | [a, b, c], _ => by have := a.toNat_lt; have := b.toNat_lt; have := c.toNat_lt; simp [hor]; omega
  | [a, b, c, d], _ => by have := a.toNat_lt; have := b.toNat_lt; have := c.toNat_lt; have := d.toNat_lt; simp [hor]; omega
  | _ :: _ :: _ :: _ :: _ :: _, h => by simp at h
theorem hor_K : ∀ n : Nat, n < 1000 → hor 0 (numK n) = n := by decide +kernel
theorem atoi_K : ∀ n : Nat, n < 1000 → Lib.atoi (numK n) = some (n : Int) := by decide +kernel
theorem K_inj {n m : Nat} (hn : n < 1000) (hm : m < 1000) (h : numK n = numK m) : n = m := by
  have h1 := hor_K n hn
  have h2 := hor_K m hm
  rw [h, h2] at h1
  omega
/-- the number that a text writes -/
def numOf (s : List UInt8) : Option Nat := (List.range 1000).find? fun n => numK n == s
theorem numOf_K {n : Nat} (h : n < 1000) : numOf (numK n) = some n := by
  unfold numOf
  rcases hf : (List.range 1000).find? (fun m => numK m == numK n) with _ | m
  · rw [List.find?_eq_none] at hf
    exact absurd (by simp) (hf n (List.mem_range.2 h))
  · have h1 := List.find?_some hf
    have h2 := List.mem_range.1 (List.mem_of_find?_eq_some hf)
    rw [K_inj h2 h (by simpa using h1)]
theorem numOf_some {s : List UInt8} {n : Nat} (h : numOf s = some n) : n < 1000 ∧ numK n = s := by
  unfold numOf at h
  exact ⟨List.mem_range.1 (List.mem_of_find?_eq_some h), by simpa using List.find?_some h⟩
theorem numOf_none {s : List UInt8} (h : ∀ n, n < 1000 → numK n ≠ s) : numOf s = none := by
  rcases hf : numOf s with _ | n
  · rfl
  · have := numOf_some hf
    exact absurd this.2 (h n this.1)
/-- the number, and whether the text is one -/
def pnV (s : List UInt8) : Int := match numOf s with | some n => (n : Int) | none => 0
def pnB (s : List UInt8) : Bool := (numOf s).isSome
theorem pn_hit {s : List UInt8} {n : Int} (h0 : 0 ≤ n) (h1 : n ≤ 999) (h : Lib.itoa n = s) : pnV s = n ∧ pnB s = true := by
  obtain ⟨k, rfl⟩ := Int.eq_ofNat_of_zero_le h0
  rw [itoa_K (by omega)] at h
  subst h
  have e := numOf_K (show k < 1000 by omega)
  constructor
  · unfold pnV; rw [e]
  · unfold pnB; rw [e]; rfl
theorem pn_miss {s : List UInt8} (h : ∀ n : Nat, n < 1000 → numK n ≠ s) : pnV s = 0 ∧ pnB s = false := by
  have e := numOf_none h
  constructor
  · unfold pnV; rw [e]
  · unfold pnB; rw [e]; rfl
theorem pn_bd (s : List UInt8) : 0 ≤ pnV s ∧ pnV s ≤ 999 := by
  unfold pnV
  split
  · rename_i n h
    have := (numOf_some h).1
    omega
  · omega
theorem pn_itoa {s : List UInt8} (h : pnB s = true) : Lib.itoa (pnV s) = s := by
  unfold pnB at h
  unfold pnV
  rcases hf : numOf s with _ | n
  · rw [hf] at h; cases h
  · have := numOf_some hf
    exact (itoa_K this.1).trans this.2
theorem pn_zero {s : List UInt8} (h : pnB s = false) : pnV s = 0 := by
  unfold pnB at h
  unfold pnV
  rcases hf : numOf s with _ | n
  · rfl
  · rw [hf] at h; cases h
theorem numK_head : ∀ n : Nat, n < 1000 → (numK n).head? ≠ some 45 := by decide +kernel
theorem itoa_inj {n : Int} {m : Nat} (hm : m < 1000) (h : Lib.itoa n = numK m) : n = m := by
  unfold Lib.itoa at h
  split at h
  · exact absurd (by rw [← h]; rfl) (numK_head m hm)
  · rename_i h0
    by_cases hk : n.toNat < 1000
    · rw [dec_K hk] at h
      have := K_inj hk hm h
      omega
    · exfalso
      have h1 := congrArg List.length h
      have h2 := (numK_len m).2
      rw [Lib.decDigits_length, Lib.nDigits_big (by omega), Lib.nDigits_big (by omega), Lib.nDigits_big (by omega)] at h1
      have := Lib.nDigits_pos (n.toNat / 10 / 10 / 10)
      omega
theorem pn_of_itoa (n : Int) : pnB (Lib.itoa n) = (decide (0 ≤ n) && decide (n ≤ 999)) ∧ (pnB (Lib.itoa n) = true → pnV (Lib.itoa n) = n) := by
  by_cases h : 0 ≤ n ∧ n ≤ 999
  · have := pn_hit h.1 h.2 rfl
    rw [this.1, this.2]
    simp [h.1, h.2]
  · have := pn_miss (s := Lib.itoa n) (fun m hm e => h (by have := itoa_inj hm e.symm; omega))
    rw [this.2]
    simp
    omega
theorem pn_nul : pnB [] = false ∧ pnV [] = 0 := by
  have := pn_miss (s := []) (fun n _ e => by have := (numK_len n).1; rw [e] at this; simp at this)
  exact ⟨this.2, this.1⟩
theorem itoa_len_small {n : Int} (h0 : 0 ≤ n) (h1 : n ≤ 999) : (Lib.itoa n).length ≤ 3 := by
  obtain ⟨k, rfl⟩ := Int.eq_ofNat_of_zero_le h0
  rw [itoa_K (by omega)]
  exact (numK_len k).2
theorem nd_pow : ∀ u : Nat, 1 ≤ u → 10 ^ (Lib.nDigits u - 1) ≤ u := by
  intro u
  induction u using Nat.strongRecOn with
  | _ u ih =>
    intro hu
    by_cases h : u < 10
    · rw [Lib.nDigits_small h]; simpa using hu
    · have h1 := ih (u / 10) (by omega) (by omega)
      have h2 := Lib.nDigits_pos (u / 10)
      rw [Lib.nDigits_big h, show Lib.nDigits (u / 10) + 1 - 1 = (Lib.nDigits (u / 10) - 1) + 1 by omega, Nat.pow_succ]
      omega
theorem itoa_len {n : Int} (h0 : -9223372036854775808 ≤ n) (h1 : n ≤ 9223372036854775807) : (Lib.itoa n).length ≤ 20 := by
  have h : ∀ u : Nat, u < 10000000000000000000 → (Lib.decDigits u).length ≤ 19 := by
    intro u hu
    rw [Lib.decDigits_length]
    rcases Nat.lt_or_ge 19 (Lib.nDigits u) with hc | hc
    · exfalso
      have hu1 : 1 ≤ u := by
        rcases u with _ | u
        · rw [Lib.nDigits_small (by omega)] at hc; omega
        · omega
      have hp := nd_pow u hu1
      have h2 : 10 ^ 19 ≤ 10 ^ (Lib.nDigits u - 1) := Nat.pow_le_pow_right (by omega) (by omega)
      have h3 : (10 : Nat) ^ 19 = 10000000000000000000 := by decide
      omega
    · exact hc
  unfold Lib.itoa
  split
  · have := h n.natAbs (by omega)
    simp; omega
  · have := h n.toNat (by omega)
    omega
end Go.Proofs.YtabbgabdbkbjcaaDoor.Pu
