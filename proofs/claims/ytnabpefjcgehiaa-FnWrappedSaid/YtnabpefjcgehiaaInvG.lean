/- A region that draws its order, by an invariant of any form: what is known once an operation is done, and that the others leave it so. -/
import Derived.Test.YtnabpefjcgehiaaInv3
namespace Go.Proofs.Ytnabpefjcgehiaa
open Go.ChangeShapes Go.WideShapes Go.ChangeAt Go.RowKit
set_option maxRecDepth 100000
section
variable {P : Program} {ops : Array Oper} {Q : Exit → Act → World → Prop}
/-- one operation, at what is known ahead of it -/
def StepG (P : Program) (ops : Array Oper) (Q : Exit → Act → World → Prop) (I : World → Prop) (a : Act) (D : List Nat) (d : Nat → Nat) (dep : Nat → List Nat) (G : Nat → Value → World → Prop) (i : Nat) (o : Oper) : Prop :=
  ∀ vs w, I w → (∀ j ∈ dep i, G j (vs (d j)) w) → ∀ K : Act → World → Prop,
    (∀ v w', I w' → G i (upd vs o.dst v (d i)) w' → (∀ j, j < ops.size → j ≠ i → i ∉ dep j → G j (vs (d j)) w → G j (vs (d j)) w') → K ((actAt a D vs).put o.dst v) w') →
    if Region.wanted o (yielded ops (actAt a D vs).tmps) = true then Oper.wp P o (actAt a D vs) w K Q else K ((actAt a D vs).put o.dst undef) w
theorem wp_region_G {id : Nat} {a : Act} {w : World} (I : World → Prop) (D : List Nat) (d : Nat → Nat) (dep : Nat → List Nat) (G : Nat → Value → World → Prop) (hm : P.follows .mixedOrders = true)
    (hB : (backB .any ops && depB .any ops dep && slotsB ops D d dep) = true) (h0 : I w.drew)
    (step : ∀ i o, ops[i]? = some o → StepG P ops Q I a D d dep G i o)
    (fin : ∀ vs w, I w → (∀ i, i < ops.size → G i (vs (d i)) w) → Q .normal (actAt a D vs) w) : (Code.region id ops true).wp P Q a w := by
  simp only [Bool.and_eq_true] at hB
  obtain ⟨⟨hB, hD⟩, hC⟩ := hB
  refine wp_region_any hm (wpAny_inv (J := fun listed a' w => ∃ vs, a' = actAt a D vs ∧ I w ∧ (∀ j, j < ops.size → listed.getD j false = true → G j (vs (d j)) w) ∧ (∀ j, listed.getD j false = true → ∀ k ∈ dep j, listed.getD k false = true)) hB ?_ ?_ _ _ _ _ (by simp) (by simp) ⟨fun k => a.tmps.getD k undef, ?_, h0, ?_, ?_⟩)
  · rintro i o ho listed _ w hi ⟨vs, rfl, hb, hF, hC'⟩
    obtain ⟨h1, o', ho', hall⟩ := mem_ready.1 hi
    have hlt : i < ops.size := (Array.getElem?_eq_some_iff.1 ho).1
    have hunl : listed.getD i false = true → False := fun h => by
      rw [Array.getD_eq_getD_getElem?] at h h1
      rcases hx : listed[i]? with _ | x
      · rw [hx] at h; cases h
      · rw [hx] at h h1; simp at h h1; rw [h] at h1; cases h1
    have hdep : ∀ j ∈ dep i, listed.getD j false = true := fun j hj => by
      obtain ⟨e, he, hb, h2⟩ := depB_spec hD ho' hj
      have h3 := hall e he hb
      rcases h2 with rfl | h2
      · exact h3
      · exact hC' _ h3 _ h2
    have hlow : ∀ (n m : Nat), m < n → n ≤ ops.size → ∀ j ∈ dep m, j < m := by
      intro n
      induction n with
      | zero => intro m hm; omega
      | succ n ih =>
        intro m hm hn j hj
        rcases ho3 : ops[m]? with _ | o3
        · rw [Array.getElem?_eq_none_iff] at ho3; omega
        · obtain ⟨e3, he3, hb3, h5⟩ := depB_spec hD ho3 hj
          have h6 := backB_spec hB ho3 e3 he3 hb3
          rcases h5 with rfl | h5
          · exact h6
          · have := ih e3.on (by omega) (by omega) j h5
            omega
    have hsz : ∀ j ∈ dep i, j < ops.size := fun j hj => by have := hlow ops.size i hlt (Nat.le_refl _) j hj; omega
    refine wpOp_step ho fun K hK => step i o ho vs w hb (fun j hj => hF j (hsz j hj) (hdep j hj)) K fun v w' hb' hG hkeep => hK _ _ ⟨upd vs o.dst v, ?_, hb', fun j hj hl => ?_, fun j hl k hk => ?_⟩
    · exact actAt_put a D vs o.dst v fun k hk => (slotsB_mem hC ho hk).1
    · by_cases hji : j = i
      · subst hji; exact hG
      · have hl' : listed.getD j false = true := by rw [getD_set_ne false (Ne.symm hji)] at hl; exact hl
        have hnd : i ∉ dep j := fun h => hunl (hC' j hl' i h)
        have h5 := hkeep j hj hji hnd (hF j hj hl')
        have e : upd vs o.dst v (d j) = vs (d j) := by
          rcases hk : o.dst with _ | k
          · rfl
          · have := (slotsB_mem hC ho hk).2 j hj hji hnd
            exact if_neg (Ne.symm this)
        rw [e]
        exact h5
    · by_cases hji : j = i
      · subst hji; exact getD_set_true (hdep k hk)
      · exact getD_set_true (hC' j (by rw [getD_set_ne false (Ne.symm hji)] at hl; exact hl) k hk)
  · rintro listed _ w hall ⟨vs, rfl, hb, hF, _⟩
    exact fin vs w hb (fun i hi => hF i hi (hall i hi))
  · refine (actAt_id a D _ fun k _ hk => ?_).symm
    rw [Array.getD_eq_getD_getElem?, Array.getElem?_eq_getElem hk]
    rfl
  · intro j _ hl
    rw [getD_replicate_false] at hl
    cases hl
  · intro j hl
    rw [getD_replicate_false] at hl
    cases hl
theorem step_movedG {I : World → Prop} {a : Act} {D : List Nat} {d : Nat → Nat} {dep : Nat → List Nat} {G : Nat → Value → World → Prop} {i : Nat} {o : Oper} (TS : List TypeId)
    (hfirm : ∀ j, j ≠ i → i ∉ dep j → ∀ v, Firm TS (G j v))
    (h : ∀ vs w, I w → (∀ j ∈ dep i, G j (vs (d j)) w) → ∀ K : Act → World → Prop,
      (∀ v w', I w' → Moved TS w w' → G i (upd vs o.dst v (d i)) w' → K ((actAt a D vs).put o.dst v) w') →
      if Region.wanted o (yielded ops (actAt a D vs).tmps) = true then Oper.wp P o (actAt a D vs) w K Q else K ((actAt a D vs).put o.dst undef) w) : StepG P ops Q I a D d dep G i o :=
  fun vs w hb hd K hK => h vs w hb hd K fun v w' hb' hm hG => hK v w' hb' hG fun j _ hji hnd hj => hfirm j hji hnd _ _ _ hm hj
/-- one operation, whatever the act holds besides -/
def OpG (P : Program) (ops : Array Oper) (Q : Exit → Act → World → Prop) (I : World → Prop) (a : Act) (D : List Nat) (d : Nat → Nat) (dep : Nat → List Nat) (G : Nat → Value → World → Prop) (TS : List TypeId) (i : Nat) (o : Oper) : Prop :=
  ∀ vs w (b : Act), (∀ k ∈ D, b.tmps[k]? = some (vs k)) → (∀ k, k ∉ D → b.tmps[k]? = a.tmps[k]?) → I w → (∀ j ∈ dep i, G j (vs (d j)) w) → ∀ K : Act → World → Prop,
    (∀ v w', I w' → Moved TS w w' → G i (upd vs o.dst v (d i)) w' → K (b.put o.dst v) w') → Region.wanted o (yielded ops b.tmps) = true ∧ Oper.wp P o b w K Q
theorem step_absG {I : World → Prop} {a : Act} {D : List Nat} {d : Nat → Nat} {dep : Nat → List Nat} {G : Nat → Value → World → Prop} {i : Nat} {o : Oper} (TS : List TypeId) (n : Nat)
    (hn : a.tmps.size = n) (hD : D.all (fun k => decide (k < n)) = true) (hfirm : ∀ j, j ≠ i → i ∉ dep j → ∀ v, Firm TS (G j v))
    (h : OpG P ops Q I a D d dep G TS i o) : StepG P ops Q I a D d dep G i o := by
  refine step_movedG TS hfirm fun vs w hb hd K hK => ?_
  have h1 := h vs w (actAt a D vs) (fun k hk => by
    have hlt : k < a.tmps.size := by rw [hn]; simpa using List.all_eq_true.1 hD k hk
    show (slots D vs a.tmps)[k]? = _
    rw [slots_get, if_pos ⟨hk, hlt⟩]) (fun k hk => by
    show (slots D vs a.tmps)[k]? = _
    rw [slots_get, if_neg (fun h => hk h.1)]) hb hd K hK
  rw [if_pos h1.1]
  exact h1.2
/-- 'steps' one by one, each by its own proof -/
theorem wp_region_absG {id : Nat} {a : Act} {w : World} (I : World → Prop) (D : List Nat) (d : Nat → Nat) (dep : Nat → List Nat) (G : Nat → Value → World → Prop) (TS : Nat → List TypeId) (n : Nat) (hm : P.follows .mixedOrders = true)
    (hB : (backB .any ops && depB .any ops dep && slotsB ops D d dep) = true) (hn : a.tmps.size = n) (hD : D.all (fun k => decide (k < n)) = true) (h0 : I w.drew)
    (firm : ∀ i j, j ≠ i → i ∉ dep j → ∀ v, Firm (TS i) (G j v))
    (step : StepsFrom (fun i o => OpG P ops Q I a D d dep G (TS i) i o) 0 ops.toList)
    (fin : ∀ vs w (b : Act), (∀ k ∈ D, b.tmps[k]? = some (vs k)) → b = actAt a D vs → I w → (∀ i, i < ops.size → G i (vs (d i)) w) → Q .normal b w) : (Code.region id ops true).wp P Q a w :=
  wp_region_G I D d dep G hm hB h0 (fun i o ho => step_absG (TS i) n hn hD (firm i) (steps_of step i o (by simpa using ho))) (fun vs w hb hall => fin vs w _ (fun k hk => by
    have hlt : k < a.tmps.size := by rw [hn]; simpa using List.all_eq_true.1 hD k hk
    show (slots D vs a.tmps)[k]? = _
    rw [slots_get, if_pos ⟨hk, hlt⟩]) rfl hb hall)
end
end Go.Proofs.Ytnabpefjcgehiaa
