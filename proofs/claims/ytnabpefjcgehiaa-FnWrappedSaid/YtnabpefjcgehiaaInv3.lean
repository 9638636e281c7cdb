/- Regions by an invariant, 3: an operation at an act that is known by its slots alone. -/
import Derived.Test.YtnabpefjcgehiaaM0
namespace Go.Proofs.Ytnabpefjcgehiaa
open Go.ChangeShapes Go.WideShapes Go.ChangeAt Go.RowKit
set_option maxRecDepth 100000
theorem five_of {cs : Array Value} (h : cs.size = 5) : ∃ a b c d e, cs = #[a, b, c, d, e] := by
  obtain ⟨l⟩ := cs
  match l, h with
  | [a, b, c, d, e], _ => exact ⟨a, b, c, d, e, rfl⟩
section
variable {P : Program} {ops : Array Oper} {Q : Exit → Act → World → Prop}
/-- one operation, whatever the act holds besides -/
def OpAt (P : Program) (ops : Array Oper) (Q : Exit → Act → World → Prop) (B : Nat) (w0 : World) (a : Act) (D : List Nat) (d : Nat → Nat) (dep : Nat → List Nat) (G : Nat → Value → World → Prop) (TS : List TypeId) (i : Nat) (o : Oper) : Prop :=
  ∀ vs w (b : Act), (∀ k ∈ D, b.tmps[k]? = some (vs k)) → (∀ k, k ∉ D → b.tmps[k]? = a.tmps[k]?) → Below B w0 w → (∀ j ∈ dep i, G j (vs (d j)) w) → ∀ K : Act → World → Prop,
    (∀ v w', Below B w0 w' → Moved TS w w' → G i (upd vs o.dst v (d i)) w' → K (b.put o.dst v) w') → Region.wanted o (yielded ops b.tmps) = true ∧ Oper.wp P o b w K Q
theorem step_abs {B : Nat} {w0 : World} {a : Act} {D : List Nat} {d : Nat → Nat} {dep : Nat → List Nat} {G : Nat → Value → World → Prop} {i : Nat} {o : Oper} (TS : List TypeId) (n : Nat)
    (hn : a.tmps.size = n) (hD : D.all (fun k => decide (k < n)) = true) (hfirm : ∀ j, j ≠ i → i ∉ dep j → ∀ v, Firm TS (G j v))
    (h : OpAt P ops Q B w0 a D d dep G TS i o) : StepAt P ops Q B w0 a D d dep G i o := by
  refine step_moved TS hfirm fun vs w hb hd K hK => ?_
  have h1 := h vs w (actAt a D vs) (fun k hk => by
    have hlt : k < a.tmps.size := by rw [hn]; simpa using List.all_eq_true.1 hD k hk
    show (slots D vs a.tmps)[k]? = _
    rw [slots_get, if_pos ⟨hk, hlt⟩]) (fun k hk => by
    show (slots D vs a.tmps)[k]? = _
    rw [slots_get, if_neg (fun h => hk h.1)]) hb hd K hK
  rw [if_pos h1.1]
  exact h1.2
theorem wanted_plain {o : Oper} {y : Nat → Option Bool} (h : o.guard = none) : Region.wanted o y = true := by simp [Region.wanted, h]
/-- 'steps' one by one, each by its own proof -/
theorem wp_region_abs {id : Nat} {a : Act} {w : World} (B : Nat) (w0 : World) (D : List Nat) (d : Nat → Nat) (dep : Nat → List Nat) (G : Nat → Value → World → Prop) (TS : Nat → List TypeId) (n : Nat) (hm : P.follows .mixedOrders = true)
    (hB : (backB .any ops && depB .any ops dep && slotsB ops D d dep) = true) (hn : a.tmps.size = n) (hD : D.all (fun k => decide (k < n)) = true) (h0 : Below B w0 w.drew)
    (firm : ∀ i j, j ≠ i → i ∉ dep j → ∀ v, Firm (TS i) (G j v))
    (step : StepsFrom (fun i o => OpAt P ops Q B w0 a D d dep G (TS i) i o) 0 ops.toList)
    (fin : ∀ vs w (b : Act), (∀ k ∈ D, b.tmps[k]? = some (vs k)) → b = actAt a D vs → Below B w0 w → (∀ i, i < ops.size → G i (vs (d i)) w) → Q .normal b w) : (Code.region id ops true).wp P Q a w :=
  wp_region_inv B w0 D d dep G hm hB h0 (fun i o ho => step_abs (TS i) n hn hD (firm i) (steps_of step i o (by simpa using ho))) (fun vs w hb hall => fin vs w _ (fun k hk => by
    have hlt : k < a.tmps.size := by rw [hn]; simpa using List.all_eq_true.1 hD k hk
    show (slots D vs a.tmps)[k]? = _
    rw [slots_get, if_pos ⟨hk, hlt⟩]) rfl hb hall)
end
end Go.Proofs.Ytnabpefjcgehiaa
