/- The plain laws of recipes and of adapters put on and taken off. -/
import Derived.Test.YtnabpefjcgehiaaRecFace
import Derived.Test.YtnabpefjcgehiaaM2
namespace Go.Proofs.Ytnabpefjcgehiaa.Pu
theorem wrap_code {p : PartD} {n : ByteArray} : (wrapR p n).code = 0 ↔ wrapOk p n = true := by
  unfold wrapR wrapOk
  rcases h1 : (partB p && layOk n.toList) with _ | _
  · simp
  · by_cases h2 : p.layers.length < 3
    · rcases h3 : offersB (faceAt p p.layers.length) (layN n.toList) with _ | _ <;> simp [h2]
    · simp [h2]
theorem face_app {p : PartD} {x : LayerD} {k : Nat} (h : k ≤ p.layers.length) : faceAt ⟨p.core, p.layers ++ [x]⟩ k = faceAt p k := by
  cases k with
  | zero => rfl
  | succ k => rw [faceAt, faceAt, List.getElem?_append_left (by omega)]
theorem wrap_part {p : PartD} {n : ByteArray} (h : wrapOk p n = true) : partB ⟨p.core, p.layers ++ [⟨n, 0⟩]⟩ = true := by
  simp only [wrapOk, Bool.and_eq_true, decide_eq_true_eq] at h
  obtain ⟨⟨⟨hp, hl⟩, h3⟩, ho⟩ := h
  simp only [partB, Bool.and_eq_true, decide_eq_true_eq] at hp ⊢
  obtain ⟨⟨hc, _⟩, hy⟩ := hp
  refine ⟨⟨hc, by simp; omega⟩, laysB_yes fun k x hk hx => ?_⟩
  by_cases he : k < p.layers.length
  · have hx' : p.layers[k]? = some x := by rw [List.getElem?_append_left he] at hx; exact hx
    rw [laysB, List.all_eq_true] at hy
    have h9 := hy k (by simpa using he)
    rw [hx'] at h9
    rw [layB, face_app (by omega)]
    exact h9
  · have hk' : k < p.layers.length + 1 := by simpa using hk
    obtain rfl : k = p.layers.length := by omega
    have e : x = ⟨n, 0⟩ := by
      have h8 : (p.layers ++ [(⟨n, 0⟩ : LayerD)])[p.layers.length]? = some ⟨n, 0⟩ := by simp
      exact Option.some.inj (hx.symm.trans h8)
    subst e
    rw [layB, face_app (Nat.le_refl _), hl, ho]
    rfl
theorem wrap_is {p : PartD} {n : ByteArray} (h : wrapOk p n = true) : wrapP p n = ⟨p.core, p.layers ++ [⟨n, 0⟩]⟩ := by rw [wrapP, if_pos h]
theorem makeOn_good : ∀ (r : List ByteArray) (p : PartD), partB p = true → (makeOn p r).2.code = 0 → partB (makeOn p r).1 = true ∧ recipe (makeOn p r).1 = recipe p ++ r ∧ (makeOn p r).2.value = faceAt (makeOn p r).1 (makeOn p r).1.layers.length
  | [], p, hp, _ => ⟨hp, by simp [makeOn], rfl⟩
  | n :: r, p, hp, h => by
    rw [makeOn] at h ⊢
    by_cases hc : (wrapR p n).code = 0
    · have hw := wrap_code.1 hc
      rw [if_pos hc] at h ⊢
      have hq : partB (wrapP p n) = true := by rw [wrap_is hw]; exact wrap_part hw
      obtain ⟨g1, g2, g3⟩ := makeOn_good r (wrapP p n) hq h
      refine ⟨g1, ?_, g3⟩
      rw [g2, wrap_is hw]
      simp [recipe]
    · rw [if_neg hc] at h
      exact absurd h hc
theorem makeOn_none : ∀ (r : List ByteArray) (p : PartD), (makeOn p r).2.code ≠ 0 → (makeOn p r).1 = noPart
  | [], p, h => absurd rfl h
  | n :: r, p, h => by
    rw [makeOn] at h ⊢
    by_cases hc : (wrapR p n).code = 0
    · rw [if_pos hc] at h ⊢
      exact makeOn_none r _ h
    · rw [if_neg hc]
theorem makeOn_take : ∀ (r : List ByteArray) (p : PartD) (i : Nat) (x : ByteArray), partB p = true → (makeOn p r).2.code = 0 → r[i]? = some x →
    (makeOn p (r.take i)).2.code = 0 ∧ layOk x.toList = true ∧ offersB (makeOn p (r.take i)).2.value (layN x.toList) = true
  | [], p, i, x, _, _, hx => by simp at hx
  | n :: r, p, i, x, hp, h, hx => by
    rw [makeOn] at h
    by_cases hc : (wrapR p n).code = 0
    · have hw := wrap_code.1 hc
      rw [if_pos hc] at h
      cases i with
      | zero =>
        obtain rfl : n = x := by simpa using hx
        simp only [wrapOk, Bool.and_eq_true] at hw
        exact ⟨rfl, hw.1.1.2, hw.2⟩
      | succ i =>
        have hq : partB (wrapP p n) = true := by rw [wrap_is hw]; exact wrap_part hw
        have hx' : r[i]? = some x := by simpa using hx
        have h9 := makeOn_take r (wrapP p n) i x hq h hx'
        rw [List.take_succ_cons, makeOn, if_pos hc]
        exact h9
    · rw [if_neg hc] at h
      exact absurd h hc
theorem new_part {k : ByteArray} (h : kindOk k.toList = true) : partB (newPart k) = true ∧ recipe (newPart k) = [k] := by
  have e : newPart k = ⟨⟨k, false, false, [], 0⟩, []⟩ := by rw [newPart, newCore, if_pos h]
  rw [e]
  refine ⟨?_, rfl⟩
  have hc : cellsB [] = true := rfl
  simp [partB, coreB, h, hc, laysB, isNum]
/-- what a recipe comes to -/
theorem make_good {l : List ByteArray} (h : recOk l = true) : partB (makeP l) = true ∧ recipe (makeP l) = l ∧ (makeR l).value = faceAt (makeP l) (makeP l).layers.length ∧ recF l = (makeR l).value ∧ (makeR l).code = 0 := by
  have hc : (makeR l).code = 0 := by simpa [recOk] using h
  rcases l with _ | ⟨k, r⟩
  · simp [makeR, make] at hc
  · by_cases hk : kindOk k.toList = true
    · have e : make (k :: r) = makeOn (newPart k) r := by rw [make, if_pos hk]
      have hc' : (makeOn (newPart k) r).2.code = 0 := by rw [← e]; exact hc
      obtain ⟨g1, g2, g3⟩ := makeOn_good r (newPart k) (new_part hk).1 hc'
      rw [(new_part hk).2] at g2
      refine ⟨?_, ?_, ?_, by rw [recF, if_pos hc], hc⟩
      · rw [makeP, e]; exact g1
      · rw [makeP, e]; exact g2
      · rw [makeR, makeP, e]; exact g3
    · rw [makeR, make, if_neg hk] at hc
      simp at hc
theorem make_none {l : List ByteArray} (h : recOk l = false) : makeP l = noPart ∧ recF l = 0 ∧ ¬ (makeR l).code = 0 := by
  have hc : ¬ (makeR l).code = 0 := by simpa [recOk] using h
  refine ⟨?_, by rw [recF, if_neg hc], hc⟩
  rcases l with _ | ⟨k, r⟩
  · rfl
  · by_cases hk : kindOk k.toList = true
    · have e : make (k :: r) = makeOn (newPart k) r := by rw [make, if_pos hk]
      rw [makeP, e]
      exact makeOn_none r _ (by rw [← e]; exact hc)
    · rw [makeP, make, if_neg hk]
theorem make_take {l : List ByteArray} {i : Nat} {x : ByteArray} (h : recOk l = true) (hx : l[i + 1]? = some x) : recOk (l.take (i + 1)) = true ∧ layOk x.toList = true ∧ offersB (recF (l.take (i + 1))) (layN x.toList) = true := by
  have hc : (makeR l).code = 0 := by simpa [recOk] using h
  rcases l with _ | ⟨k, r⟩
  · simp at hx
  · by_cases hk : kindOk k.toList = true
    · have e : ∀ s, make (k :: s) = makeOn (newPart k) s := fun s => by rw [make, if_pos hk]
      have hc' : (makeOn (newPart k) r).2.code = 0 := by rw [← e]; exact hc
      obtain ⟨g1, g2, g3⟩ := makeOn_take r (newPart k) i x (new_part hk).1 hc' (by simpa using hx)
      rw [List.take_succ_cons]
      have g0 : (makeR (k :: r.take i)).code = 0 := by rw [makeR, e]; exact g1
      refine ⟨by simp [recOk, g0], g2, ?_⟩
      rw [recF, if_pos g0, makeR, e]
      exact g3
    · rw [makeR, make, if_neg hk] at hc
      simp at hc
theorem makeOn_core : ∀ (r : List ByteArray) (p : PartD), (makeOn p r).2.code = 0 → (makeOn p r).1.core = p.core
  | [], p, _ => rfl
  | n :: r, p, h => by
    rw [makeOn] at h ⊢
    by_cases hc : (wrapR p n).code = 0
    · rw [if_pos hc] at h ⊢
      rw [makeOn_core r _ h, wrap_is (wrap_code.1 hc)]
    · rw [if_neg hc] at h
      exact absurd h hc
theorem make_core {l : List ByteArray} (h : recOk l = true) : ∃ k, k ∈ l ∧ (makeP l).core = ⟨k, false, false, [], 0⟩ := by
  have hc : (makeR l).code = 0 := by simpa [recOk] using h
  rcases l with _ | ⟨k, r⟩
  · simp [makeR, make] at hc
  · by_cases hk : kindOk k.toList = true
    · have e : make (k :: r) = makeOn (newPart k) r := by rw [make, if_pos hk]
      refine ⟨k, by simp, ?_⟩
      rw [makeP, e, makeOn_core r _ (by rw [← e]; exact hc), newPart, newCore, if_pos hk]
    · rw [makeR, make, if_neg hk] at hc
      simp at hc
end Go.Proofs.Ytnabpefjcgehiaa.Pu
namespace Go.Proofs.Ytnabpefjcgehiaa
open Go.ChangeShapes Go.WideShapes Go.ChangeAt Go.RowKit
set_option maxRecDepth 100000
theorem rd_take {w : World} {A : Option Addr} {c k : Nat} {l : List ByteArray} (h : RdL w 1 strEn (.slice A l.length c) l) (hk : k ≤ l.length) : RdL w 1 strEn (.slice A k c) (l.take k) := by
  obtain ⟨A', c', e, h1, h2, hA⟩ := RdL.open_ h
  injection e with e1 _ e3
  subst e1 e3
  refine ⟨A, c, by rw [List.length_take, Nat.min_eq_left hk], by rw [List.length_take]; omega, h2, fun h0 => ?_⟩
  obtain ⟨g, o, e4, hg, hf⟩ := hA.at_ (by rw [List.length_take] at h0; omega)
  refine ⟨g, o, e4, hg, fun i x hx j u hu => ?_⟩
  have hx' : l[i]? = some x := by
    rw [List.getElem?_take] at hx
    split at hx
    · exact hx
    · cases hx
  have hf2 := hf.out
  unfold RdFrom at hf2
  exact hf2.2 i x hx' j u hu
end Go.Proofs.Ytnabpefjcgehiaa
