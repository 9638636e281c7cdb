/- Contracts: calls. -/
import Derived.Test.YtnabpefjcgehiaaM0
namespace Go.Proofs.Ytnabpefjcgehiaa
open Go.ChangeShapes Go.WideShapes Go.ChangeAt Go.RowKit
set_option maxRecDepth 100000
def callV (x : Pu.CallD) : Value := .agg #[.string x.method, .string x.key, .int .i64 x.value, .string x.text]
def CallD.wf (x : Pu.CallD) : Prop := x.method.size ≤ maxLen ∧ x.key.size ≤ maxLen ∧ (Lit.int .i64 x.value).wf = true ∧ x.text.size ≤ maxLen
def IsCallV (v : Value) (x : Pu.CallD) : Prop := CallD.wf x ∧ v = callV x
def Pu.mGet : List UInt8 := [71, 101, 116]
def Pu.mPut : List UInt8 := [80, 117, 116]
def Pu.mHear : List UInt8 := [72, 101, 97, 114]
def Pu.mLoad : List UInt8 := [76, 111, 97, 100]
/-- what a call is, by its method (Get, Put, Hear, Load: whether it is that one) -/
def Pu.callOf (g p h l : Bool) (x : Pu.CallD) : Bool :=
  !decide (Pu.abOf x.method.toList < 0) && (x.text.toList == [] || l) && (if g then Pu.nameL x.key.toList && x.value == 0 else if p then Pu.nameL x.key.toList && Pu.isNum x.value else if h then x.key.toList == [] && Pu.isNum x.value else x.key.toList == [] && x.value == 0)
def Pu.callB (x : Pu.CallD) : Bool := Pu.callOf (x.method.toList == Pu.mGet) (x.method.toList == Pu.mPut) (x.method.toList == Pu.mHear) (x.method.toList == Pu.mLoad) x
theorem Pu.method_cases (s : List UInt8) : ((s == Pu.mGet) = true ∧ (s == Pu.mPut) = false ∧ (s == Pu.mHear) = false ∧ (s == Pu.mLoad) = false) ∨ ((s == Pu.mGet) = false ∧ (s == Pu.mPut) = true ∧ (s == Pu.mHear) = false ∧ (s == Pu.mLoad) = false) ∨
    ((s == Pu.mGet) = false ∧ (s == Pu.mPut) = false ∧ (s == Pu.mHear) = true ∧ (s == Pu.mLoad) = false) ∨ ((s == Pu.mGet) = false ∧ (s == Pu.mPut) = false ∧ (s == Pu.mHear) = false ∧ (s == Pu.mLoad) = true) ∨ ((s == Pu.mGet) = false ∧ (s == Pu.mPut) = false ∧ (s == Pu.mHear) = false ∧ (s == Pu.mLoad) = false) := by
  by_cases h1 : s = Pu.mGet
  · subst h1; decide
  by_cases h2 : s = Pu.mPut
  · subst h2; decide
  by_cases h3 : s = Pu.mHear
  · subst h3; decide
  by_cases h4 : s = Pu.mLoad
  · subst h4; decide
  simp [h1, h2, h3, h4]
theorem four_cells {W : World} {g : Nat} {t : TypeId} {a b c d : Value} (h : W.heap[g]? = some (.cells #[a, b, c, d] t (0, 0))) :
    W.cell? ⟨g, 0, none⟩ = some a ∧ W.cell? ⟨g, 1, none⟩ = some b ∧ W.cell? ⟨g, 2, none⟩ = some c ∧ W.cell? ⟨g, 3, none⟩ = some d ∧ ∀ j, W.frozen? ⟨g, j, none⟩ = false :=
  ⟨cell_of_row W g 0 _ t (0, 0) h, cell_of_row W g 1 _ t (0, 0) h, cell_of_row W g 2 _ t (0, 0) h, cell_of_row W g 3 _ t (0, 0) h, fun j => frozen_of_row W g j _ t h⟩
theorem Pu.wantF_zero (s : List UInt8) : Pu.wantF s = 0 ↔ Pu.abOf s < 0 := by
  unfold Pu.wantF
  by_cases h : Pu.abOf s < 0
  · simp [h]
  · rw [if_neg h]
    have hp : (0 : Int) < 2 ^ (Pu.abOf s).toNat := Int.pow_pos (by decide)
    exact ⟨fun e => absurd e (Int.ne_of_gt hp), fun e => absurd e h⟩
end Go.Proofs.Ytnabpefjcgehiaa
