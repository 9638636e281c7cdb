/- The methods of a face, in plain Lean. -/
import Derived.Test.YtcnhglellnglgaaMeths
namespace Go.Proofs.Ytcnhglellnglgaa.Pu
theorem hasT_iff {s : ByteArray} : ∀ {l : List ByteArray}, hasT l s.toList = true ↔ s ∈ l
  | [] => by simp [hasT]
  | x :: r => by
    rw [hasT, List.mem_cons]
    split
    · have : x = s := eqL.1 (by assumption)
      simp [this]
    · rename_i h
      rw [hasT_iff]
      constructor
      · exact .inr
      · rintro (rfl | h')
        · exact (h (eqL.2 rfl)).elim
        · exact h'
theorem allIn_iff {l : List ByteArray} : ∀ {m : List ByteArray}, allIn l m = true ↔ ∀ x ∈ m, x ∈ l
  | [] => by simp [allIn]
  | x :: r => by rw [allIn, Bool.and_eq_true, hasT_iff, allIn_iff]; simp
theorem toL_ofL (l : List UInt8) : (⟨l.toArray⟩ : ByteArray).toList = l := by rw [Lib.toList_data]
def hasK : List (List UInt8) → List UInt8 → Bool
  | [], _ => false
  | x :: r, s => if x == s then true else hasK r s
theorem hasT_meth (s : List UInt8) : ∀ m : List (List UInt8), hasT (m.map fun l => ⟨l.toArray⟩) s = hasK m s
  | [] => rfl
  | x :: r => by rw [List.map_cons, hasT, hasK, toL_ofL, hasT_meth s r]
def abK (s : List UInt8) : Nat → Nat → Int
  | _, 0 => -1
  | k, n + 1 => if hasK (meth k) s then (k : Int) else abK s (k + 1) n
theorem abFrom_K (s : List UInt8) : ∀ n k, abFrom s k n = abK s k n
  | 0, _ => rfl
  | n + 1, k => by rw [abFrom, abK, methB, hasT_meth, abFrom_K s n]
theorem abK_meth : ∀ k : Nat, k < 6 → (meth k).all (fun s => abK s 0 6 == (k : Int)) = true := by decide +kernel
theorem ab_meth {k : Nat} (hk : k < 6) {x : ByteArray} (hx : x ∈ methB k) : abOf x.toList = k := by
  rw [methB, List.mem_map] at hx
  obtain ⟨s, hs, rfl⟩ := hx
  have := List.all_eq_true.1 (abK_meth k hk) s hs
  rw [toL_ofL, abOf, abFrom_K]
  simpa using this
theorem methsTo_mem {f : Int} {x : ByteArray} : ∀ {k : Nat}, x ∈ methsTo f k ↔ ∃ j : Nat, j < k ∧ hasB f j = true ∧ x ∈ methB j
  | 0 => by simp [methsTo]
  | k + 1 => by
    rw [methsTo, List.mem_append, methsTo_mem]
    constructor
    · rintro (⟨j, h1, h2, h3⟩ | h)
      · exact ⟨j, by omega, h2, h3⟩
      · split at h
        · exact ⟨k, by omega, by assumption, h⟩
        · simp at h
    · rintro ⟨j, h1, h2, h3⟩
      rcases Nat.lt_or_ge j k with h | h
      · exact .inl ⟨j, h, h2, h3⟩
      · obtain rfl : j = k := by omega
        rw [if_pos h2]; exact .inr h3
theorem methsF_mem {f : Int} (hf : faceB f = true) {x : ByteArray} : x ∈ methsF f ↔ ∃ j : Nat, j < 6 ∧ hasB f j = true ∧ x ∈ methB j := by
  rw [methsF, if_pos hf, asc_mem, methsTo_mem]
theorem meth_some : ∀ k : Nat, k < 6 → meth k ≠ [] := by decide
theorem all_has {f : Int} (hf : faceB f = true) {k : Nat} (hk : k < 6) : allIn (methsF f) (methB k) = hasB f k := by
  rw [Bool.eq_iff_iff, allIn_iff]
  constructor
  · intro h
    obtain ⟨s, r, e⟩ := List.exists_cons_of_ne_nil (meth_some k hk)
    have hx : (⟨s.toArray⟩ : ByteArray) ∈ methB k := by rw [methB, e]; simp
    obtain ⟨j, h1, h2, h3⟩ := (methsF_mem hf).1 (h _ hx)
    have e1 := ab_meth hk hx
    have e2 := ab_meth h1 h3
    obtain rfl : j = k := by omega
    exact h2
  · intro h x hx
    exact (methsF_mem hf).2 ⟨k, hk, h, hx⟩
def sumH (f : Int) : Nat → Int
  | 0 => 0
  | k + 1 => sumH f k + (if hasB f k then 2 ^ k else 0)
theorem sumH_all : ∀ n : Nat, n < 64 → sumH (n : Int) 6 = n := by decide +kernel
theorem face_meths {f : Int} (hf : faceB f = true) : (faceOf (methsF f) 6 : Int) = f := by
  have h : ∀ k, k ≤ 6 → (faceOf (methsF f) k : Int) = sumH f k := by
    intro k
    induction k with
    | zero => intro _; rfl
    | succ k ih => intro hk; rw [faceOf_step, ih (by omega), all_has hf (by omega), sumH]
  rw [h 6 (Nat.le_refl _)]
  obtain ⟨n, rfl, hn⟩ := nat_of_faceB hf
  exact sumH_all n hn
theorem offers_meths {a b : Int} (ha : faceB a = true) (hb : faceB b = true) : offersB a b = allIn (methsF a) (methsF b) := by
  rw [Bool.eq_iff_iff, offersB_iff, allIn_iff]
  constructor
  · rintro ⟨_, _, h⟩ x hx
    obtain ⟨j, h1, h2, h3⟩ := (methsF_mem hb).1 hx
    exact (methsF_mem ha).2 ⟨j, h1, h j h1 h2, h3⟩
  · intro h
    refine ⟨ha, hb, fun j hj h2 => ?_⟩
    rw [← all_has ha hj, allIn_iff]
    intro x hx
    exact h x ((methsF_mem hb).2 ⟨j, hj, h2, hx⟩)
theorem offers_bit : ∀ n : Nat, n < 64 → ∀ k : Nat, k < 6 → hasB (n : Int) k = true → offersB (n : Int) (2 ^ k) = true := by decide +kernel
theorem meth_known {b : Int} (hb : faceB b = true) {x : ByteArray} (hx : x ∈ methsF b) : ∃ k : Nat, k < 6 ∧ abOf x.toList = k ∧ offersB b (2 ^ k) = true := by
  obtain ⟨k, h1, h2, h3⟩ := (methsF_mem hb).1 hx
  refine ⟨k, h1, ab_meth h1 h3, ?_⟩
  obtain ⟨n, rfl, hn⟩ := nat_of_faceB hb
  exact offers_bit n hn k h1 h2
end Go.Proofs.Ytcnhglellnglgaa.Pu
