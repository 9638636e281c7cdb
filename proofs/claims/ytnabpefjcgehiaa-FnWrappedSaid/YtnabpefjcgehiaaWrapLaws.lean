/- The plain laws of Wrap: its four answers, and what Unwrap gives back. -/
import Derived.Test.YtnabpefjcgehiaaPartLaws
import Derived.Test.YtnabpefjcgehiaaWrap
import Derived.Test.YtnabpefjcgehiaaM1
namespace Go.Proofs.Ytnabpefjcgehiaa.Pu
variable {p : PartD} {n : ByteArray}
theorem wrap_no (h : wrapOk p n = false) : wrapP p n = p := by rw [wrapP, h]; rfl
theorem wrapR_bad (h : (partB p && layOk n.toList) = false) : wrapR p n = ⟨7, 0, ⟨#[]⟩, 0, 0⟩ ∧ wrapP p n = p := ⟨by rw [wrapR, h]; rfl, wrap_no (by rw [wrapOk, h]; rfl)⟩
theorem wrapR_full (h1 : partB p = true) (h2 : layOk n.toList = true) (h3 : ¬ p.layers.length < 3) : wrapR p n = ⟨5, 0, ⟨#[]⟩, 0, 0⟩ ∧ wrapP p n = p := ⟨by rw [wrapR, h1, h2, if_neg h3]; rfl, wrap_no (by rw [wrapOk, h1, h2, decide_eq_false h3]; rfl)⟩
theorem wrapR_no (h1 : partB p = true) (h2 : layOk n.toList = true) (h3 : p.layers.length < 3) (h4 : offersB (faceAt p p.layers.length) (layN n.toList) = false) : wrapR p n = ⟨1, 0, ⟨#[]⟩, layN n.toList, faceAt p p.layers.length⟩ ∧ wrapP p n = p :=
  ⟨by rw [wrapR, h1, h2, if_pos h3, h4]; rfl, wrap_no (by rw [wrapOk, h1, h2, decide_eq_true h3, h4]; rfl)⟩
theorem wrapR_ok (h1 : partB p = true) (h2 : layOk n.toList = true) (h3 : p.layers.length < 3) (h4 : offersB (faceAt p p.layers.length) (layN n.toList) = true) : wrapR p n = ⟨0, layG n.toList, ⟨#[]⟩, 0, 0⟩ ∧ wrapP p n = ⟨p.core, p.layers ++ [⟨n, 0⟩]⟩ ∧
    partB ⟨p.core, p.layers ++ [⟨n, 0⟩]⟩ = true ∧ faceAt ⟨p.core, p.layers ++ [⟨n, 0⟩]⟩ (p.layers ++ [(⟨n, 0⟩ : LayerD)]).length = layG n.toList ∧ unwrapOk ⟨p.core, p.layers ++ [⟨n, 0⟩]⟩ = true ∧ unwrapP ⟨p.core, p.layers ++ [⟨n, 0⟩]⟩ = p := by
  have hw : wrapOk p n = true := by rw [wrapOk, h1, h2, decide_eq_true h3, h4]; rfl
  have hb := wrap_part hw
  have hu : unwrapOk ⟨p.core, p.layers ++ [⟨n, 0⟩]⟩ = true := by rw [unwrapOk, hb]; simp
  refine ⟨by rw [wrapR, h1, h2, if_pos h3, h4]; rfl, wrap_is hw, hb, ?_, hu, ?_⟩
  · rw [List.length_append, show [(⟨n, 0⟩ : LayerD)].length = 1 from rfl, faceAt]
    simp
  · rw [unwrapP, if_pos hu]
    simp
theorem samePart_refl (p : PartD) : samePart p p = true := by simp [samePart, sameCore_refl]
theorem part_len (h : partB p = true) : p.layers.length ≤ 3 := by
  simp only [partB, Bool.and_eq_true, decide_eq_true_eq] at h
  exact h.1.2
end Go.Proofs.Ytnabpefjcgehiaa.Pu
