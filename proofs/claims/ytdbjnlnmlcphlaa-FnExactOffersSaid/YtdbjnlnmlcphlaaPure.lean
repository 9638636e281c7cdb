/- Plain functions and plain laws: what the program and the reference compute. No program in sight. -/
import Derived.PlainAid
namespace Go.Proofs.Ytdbjnlnmlcphlaa.Pu

/-! ## Bytes and names -/
def letterI (b : Int) (first : Bool) : Bool := (decide (97 ≤ b) && decide (b ≤ 122)) || (!first && decide (48 ≤ b) && decide (b ≤ 57))
def lettersF : Bool → List UInt8 → Bool
  | _, [] => true
  | first, b :: r => letterI b.toNat first && lettersF false r
def nameL (l : List UInt8) : Bool := decide (0 < l.length) && decide (l.length ≤ 8) && lettersF true l
theorem letterI_mono {b : Int} (h : letterI b true = true) : letterI b false = true := by simp [letterI] at *; omega
theorem nameL_alt (b : UInt8) (r : List UInt8) : nameL (b :: r) = (decide (r.length + 1 ≤ 8) && letterI b.toNat true && lettersF false (b :: r)) := by
  have h := @letterI_mono b.toNat
  simp only [nameL, lettersF, List.length_cons]
  cases h1 : letterI b.toNat true <;> simp_all
def isNum (n : Int) : Bool := decide (0 ≤ n) && decide (n ≤ 999)

/-! ## Faces -/
def faceB (f : Int) : Bool := decide (0 ≤ f) && decide (f ≤ 63)
def hasB (f : Int) (k : Int) : Bool := (f / 2 ^ k.toNat) % 2 == 1
/-- from bit k on, n more bits: no bit of g that f lacks -/
def offTo (f g : Int) : Nat → Nat → Bool
  | _, 0 => true
  | k, n + 1 => if hasB g k then (if hasB f k then offTo f g (k+1) n else false) else offTo f g (k+1) n
def offersB (f g : Int) : Bool := faceB f && faceB g && offTo f g 0 6
end Go.Proofs.Ytdbjnlnmlcphlaa.Pu
