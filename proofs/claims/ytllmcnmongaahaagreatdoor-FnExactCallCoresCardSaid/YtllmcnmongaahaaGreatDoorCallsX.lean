/- Calls that a law takes as a list, opened; blocks of two kinds are apart; what many calls leave of a core. -/
import Derived.Test.YtllmcnmongaahaaGreatDoorM1
import Derived.Test.YtllmcnmongaahaaGreatDoorMarkX
namespace Go.Proofs.YtllmcnmongaahaaGreatDoor
open Go.ChangeShapes Go.WideShapes Go.ChangeAt Go.RowKit
set_option maxRecDepth 100000
def RdCalls (w : World) (v : Value) (l : List Pu.CallD) : Prop := RdL w 4 callEn v l ∧ ∀ x ∈ l, CallD.wf x
section
variable {H : Type} {enc : TypeId × Value → H} {W : World}
theorem open_calls {base : Nat} {v : Value} {d : DataW H} {p : List MemPlace} (hv : Value.okWide Tryz.prog W .any base 43 v) (h : DataW.Trod enc Tryz.prog W 0 (fun _ => true) true 43 v d p) : ∃ a, RdCalls W v a := by
  obtain ⟨a0, len, cap, rfl⟩ := okWide_slice Tryz.underlying43 hv
  obtain ⟨fuel, hf⟩ := h
  obtain ⟨l, h1, h2⟩ := open_field (e := 26) (size := 4) callEn CallD.wf Tryz.underlying43 (by kernel_rfl) (by decide) (fun _ => rfl) (fun _ _ _ h => call_of h) (by simpa [Value.cells] using hf)
  exact ⟨l, h1, h2⟩
end
theorem own_kinds {α β : Type} {w : World} {b b' : Nat} {e e' : TypeId} {size size' : Nat} {en : α → List Value} {en' : β → List Value} {v v' : Value} {l : List α} {l' : List β} (h : OwnL w b e size en v l) (h' : OwnL w b' e' size' en' v' l') (he : e' ≠ e) : v.ownBlock = none ∨ v.ownBlock ≠ v'.ownBlock := by
  rcases hv : v'.ownBlock with _ | j
  · rcases hv2 : v.ownBlock with _ | i
    · exact .inl rfl
    · exact .inr (by simp)
  · obtain ⟨cs, hc⟩ := OwnL.blockType h' hv
    exact .inr (own_apart h hc he)
theorem Pu.calls_along {p : Pu.CoreD} : ∀ {l : List Pu.CallD} {q : Pu.CoreD}, Pu.Along p q → Pu.Along p (Pu.callsF q l).1
  | [], _, h => h
  | x :: r, q, h => by
    have h1 := Pu.along_step x h
    by_cases hc : (Pu.callF q x).2.code = 1
    · rw [Pu.calls_stop hc]; exact h1
    · rw [Pu.calls_go hc]; exact Pu.calls_along h1
theorem Pu.calls_len : ∀ {l : List Pu.CallD} {q : Pu.CoreD}, (Pu.callsF q l).2.length ≤ l.length
  | [], _ => Nat.le_refl _
  | x :: r, q => by
    by_cases hc : (Pu.callF q x).2.code = 1
    · rw [Pu.calls_stop hc]; simp
    · rw [Pu.calls_go hc]
      have := Pu.calls_len (l := r) (q := (Pu.callF q x).1)
      simp only [List.length_cons]
      omega
theorem Pu.along_refl (p : Pu.CoreD) : Pu.Along p p := by
  rcases hp : Pu.coreB p with _ | _
  · exact .inr ⟨hp, rfl⟩
  · exact .inl ⟨hp, hp, rfl⟩
end Go.Proofs.YtllmcnmongaahaaGreatDoor
