/- Contracts: RecipeOf. -/
import Derived.Test.YtplcdnahiimenaaPart
namespace Go.Proofs.Ytplcdnahiimenaa
open Go.ChangeShapes Go.WideShapes Go.ChangeAt Go.RowKit
set_option maxRecDepth 100000
def Pu.recipe (p : Pu.PartD) : List ByteArray := p.core.kind :: p.layers.map (·.name)
theorem Pu.recipe_take {p : Pu.PartD} {k : Nat} {x : Pu.LayerD} (h : p.layers[k]? = some x) : p.core.kind :: ((p.layers.take (k + 1)).map (·.name)) = (p.core.kind :: ((p.layers.take k).map (·.name))) ++ [x.name] := by
  rw [List.take_add_one, h]; simp
theorem one_str (n : ByteArray) : ∀ u ∈ [Value.string n], u.oneCell' = true := by simp [Value.oneCell']
/-- a new row that the call laid whole -/
theorem own_made {α : Type} {w : World} {e : TypeId} {size : Nat} {en : α → List Value} (l : List α) {n : Nat} (hn : n = l.length) (hs : ∀ x, (en x).length = size) (hm : n ≤ maxLen) :
    OwnL (w.alloc (.cells (l.flatMap en).toArray e)) w.heap.size e size en (.slice (some ⟨w.heap.size, 0, none⟩) n n) l := by
  subst hn
  have hfl := flat_len hs l
  refine ⟨hfl, .inr ⟨w.heap.size, l.length, (l.flatMap en).toArray, rfl, Nat.le_refl _, heap_alloc_new w _, Nat.le_refl _, hm, by simpa using hfl, ?_⟩⟩
  rw [← hfl]
  exact List.take_length
set_option maxHeartbeats 400000 in
theorem iRecipeOf_c (p : Pu.PartD) (s t : Value) (w : World) (ht : RdL w 2 layerEn t p.layers) (hl : p.layers.length ≤ 16777216) :
    Calls Try.prog 20 #[partV p s t] w fun e w' => ∃ v, e = .returned v ∧ OwnL w' w.heap.size 9 1 strEn v (Pu.recipe p) ∧ Below w.heap.size w w' := by
  unfold partV
  obtain ⟨A, c, rfl, hlc, hcm, hA⟩ := ht.open_
  have HA := hide hA
  clear hA ht
  obtain ⟨i0, hi, hz0, hz1, hz2⟩ := info_parts info_str
  go_enter Try.func20, Try.ntmps20
  go_wp2
  go_loopw [3, 13] (fun v i wr => ∃ k : Nat, k ≤ p.layers.length ∧ i = .int .i64 k ∧ OwnL wr w.heap.size 9 1 strEn v (p.core.kind :: ((p.layers.take k).map (·.name))) ∧ Below w.heap.size w wr) (fun _ i _ => p.layers.length - (intOf i).toNat)
  case atStart => exact ⟨0, by omega, rfl, OwnL.mono (by have h := own_made (w := w.alloc (.cells #[.string p.core.kind, .bool p.core.on, .bool p.core.broken, s, .int .i64 p.core.count, .slice A p.layers.length c] 37)) (e := 9) (en := strEn) [p.core.kind] (n := 1) rfl (fun _ => rfl) (by decide); rw [show (w.alloc (.cells #[.string p.core.kind, .bool p.core.on, .bool p.core.broken, s, .int .i64 p.core.count, .slice A p.layers.length c] 37)).heap.size = w.heap.size + 1 by simp] at h; exact h) (by omega), below_alloc (below_alloc (Below.refl _ _) _) _⟩
  case round =>
    obtain ⟨k, hk, rfl, hown, hb⟩ := hrel
    by_cases hlt : k < p.layers.length
    · obtain ⟨g, o, rfl, hg, HC⟩ := HA.out.at_ (by omega)
      obtain ⟨x, HX, h0, h1⟩ := layer_get HC hb hlt
      have hb2 : Below w.heap.size w (wr.alloc (.cells #[.string x.name, .int .i64 x.count] 72)) := below_alloc hb _
      have hown2 := OwnL.below hown (below_alloc (Below.refl _ _) (.cells #[.string x.name, .int .i64 x.count] 72)) (Nat.le_refl _)
      have hsz : (wr.alloc (.cells #[.string x.name, .int .i64 x.count] 72)).heap.size = wr.heap.size + 1 := by simp
      have hll : (p.core.kind :: ((p.layers.take k).map (·.name))).length < 1099511627776 := by simp; omega
      go_wp2_with (at_builtin; go_must (refine push_law rfl _ _ 22 (by exact rfl) w.heap.size 9 i0 (.string ByteArray.empty) 1 16 Try.underlying22 hi hz0 hz1 hz2 rfl (by decide) strEn _ _ x.name (by exact rfl) hown2 (by rw [hsz]; exact rfl) rfl (one_str _) hb2 (Nat.le_refl _) hb2.size hll (by decide) ?_); intro v1 w1 hown1 hg1 hb1)
      rw [← Pu.recipe_take HX.out] at hown1
      go_wp2
      go_roundw
      case rel => exact ⟨k + 1, by omega, by go_num, hown1, hb1⟩
      case measure => simp [intOf]; omega
    · obtain rfl : k = p.layers.length := by omega
      go_wp2
      go_ret
      rw [List.take_length] at hown
      exact ⟨_, rfl, hown, hb⟩
end Go.Proofs.Ytplcdnahiimenaa
