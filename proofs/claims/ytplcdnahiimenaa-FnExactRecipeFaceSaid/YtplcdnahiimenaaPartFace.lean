/- Contracts: the faces of parts. -/
import Derived.Test.YtplcdnahiimenaaPart
import Derived.Test.YtplcdnahiimenaaLay
import Derived.Test.YtplcdnahiimenaaKind
namespace Go.Proofs.Ytplcdnahiimenaa
open Go.ChangeShapes Go.WideShapes Go.ChangeAt Go.RowKit
set_option maxRecDepth 100000
def Pu.faceAt (p : Pu.PartD) : Nat → Int
  | 0 => Pu.kindF p.core.kind.toList
  | k + 1 => match p.layers[k]? with
    | some l => Pu.layG l.name.toList
    | none => 0
theorem Pu.lay_bd (s : List UInt8) : 0 ≤ Pu.layN s ∧ Pu.layN s ≤ 63 ∧ 0 ≤ Pu.layG s ∧ Pu.layG s ≤ 63 := by
  unfold Pu.layN Pu.layG Pu.layers
  simp only [Pu.look]
  repeat' (split; · simp)
  simp
theorem Pu.faceAt_bd (p : Pu.PartD) (k : Nat) : 0 ≤ Pu.faceAt p k ∧ Pu.faceAt p k ≤ 63 := by
  match k with
  | 0 => exact Pu.kind_bd _
  | k + 1 =>
    simp only [Pu.faceAt]
    split
    · exact (Pu.lay_bd _).2.2
    · simp
theorem iFaceBelow_c (p : Pu.PartD) (s t : Value) (k : Nat) (w : World) (ht : RdL w 2 layerEn t p.layers) (hk : k ≤ p.layers.length) :
    Calls Try.prog 45 #[partV p s t, .int .i64 k] w fun e w' => e = .returned (.int .i64 (Pu.faceAt p k)) ∧ Below w.heap.size w w' := by
  unfold partV
  obtain ⟨A, c, rfl, hlc, hcm, hA⟩ := ht.open_
  have HA := hide hA
  clear hA ht
  match k with
  | 0 =>
    go_enter Try.func45, Try.ntmps45
    go_wp2_with fail
    refine (iKindFace_c _ _).mono ?_; rintro e w1 ⟨rfl, rfl⟩
    go_wp2
    go_ret
    exact ⟨rfl, below_alloc (Below.refl _ _) _⟩
  | k + 1 =>
    obtain ⟨g, o, rfl, hg, HC⟩ := HA.out.at_ (by omega)
    obtain ⟨x, HX, h0, h1⟩ := layer_get HC (below_alloc (Below.refl _ _) (.cells #[.string p.core.kind, .bool p.core.on, .bool p.core.broken, s, .int .i64 p.core.count, .slice (some ⟨g, o, none⟩) p.layers.length c] 37)) (k := k) (by omega)
    have HE : Hid (Pu.faceAt p (k + 1) = Pu.layG x.name.toList) := by rw [Hid, Pu.faceAt, HX.out]
    rw [HE.out]
    have e0 : ((k + 1 : Nat) : Int) = (k : Int) + 1 := by omega
    rw [e0]
    have e1 : IntKind.i64.wrap ((k : Int) + 1 - 1) = (k : Int) := by rw [show (k : Int) + 1 - 1 = k by omega]; exact IntWalk.i64_in _ (by omega)
    have e2 : ¬ (k : Int) + 1 = 0 := by omega
    have e3 : (k : Int) < (p.layers.length : Int) := by omega
    have hlm : p.layers.length ≤ 9223372036854775807 := by omega
    clear e0
    go_enter Try.func45, Try.ntmps45
    go_wp2_with (go_at_call 44; refine (iLayerFaces_c _ _).mono ?_; rintro e w1 ⟨rfl, rfl⟩)
    go_ret
    exact ⟨rfl, below_alloc (Below.refl _ _) _⟩
theorem sFaceBelow_c (p : Pu.PartD) (s t : Value) (k : Nat) (w : World) (ht : RdL w 2 layerEn t p.layers) (hk : k ≤ p.layers.length) :
    Calls Try.prog 79 #[partV p s t, .int .i64 k] w fun e w' => e = .returned (.int .i64 (Pu.faceAt p k)) ∧ Below w.heap.size w w' := by
  unfold partV
  obtain ⟨A, c, rfl, hlc, hcm, hA⟩ := ht.open_
  have HA := hide hA
  clear hA ht
  match k with
  | 0 =>
    go_enter Try.func79, Try.ntmps79
    go_wp2_with fail
    refine (sKindFace_c _ _).mono ?_; rintro e w1 ⟨rfl, hb1⟩
    go_wp2
    go_ret
    exact ⟨rfl, (below_alloc (Below.refl _ _) _).trans (hb1.mono (by simp))⟩
  | k + 1 =>
    obtain ⟨g, o, rfl, hg, HC⟩ := HA.out.at_ (by omega)
    obtain ⟨x, HX, h0, h1⟩ := layer_get HC (below_alloc (Below.refl _ _) (.cells #[.string p.core.kind, .bool p.core.on, .bool p.core.broken, s, .int .i64 p.core.count, .slice (some ⟨g, o, none⟩) p.layers.length c] 37)) (k := k) (by omega)
    have HE : Hid (Pu.faceAt p (k + 1) = Pu.layG x.name.toList) := by rw [Hid, Pu.faceAt, HX.out]
    rw [HE.out]
    have e0 : ((k + 1 : Nat) : Int) = (k : Int) + 1 := by omega
    rw [e0]
    have e1 : IntKind.i64.wrap ((k : Int) + 1 - 1) = (k : Int) := by rw [show (k : Int) + 1 - 1 = k by omega]; exact IntWalk.i64_in _ (by omega)
    have e2 : ¬ (k : Int) + 1 = 0 := by omega
    have e3 : (k : Int) < (p.layers.length : Int) := by omega
    have hlm : p.layers.length ≤ 9223372036854775807 := by omega
    clear e0
    go_enter Try.func79, Try.ntmps79
    go_wp2_with fail
    refine (l4Row_c _ _).mono ?_; rintro e w1 ⟨rfl, hb1⟩
    go_wp2
    go_ret
    exact ⟨rfl, (below_alloc (Below.refl _ _) _).trans (hb1.mono (by simp))⟩
theorem iFaceOf_c (p : Pu.PartD) (s t : Value) (w : World) (ht : RdL w 2 layerEn t p.layers) :
    Calls Try.prog 21 #[partV p s t] w fun e w' => e = .returned (.int .i64 (Pu.faceAt p p.layers.length)) ∧ Below w.heap.size w w' := by
  obtain ⟨A, c, rfl, hlc, hcm, hA⟩ := ht.open_
  have hlm : p.layers.length ≤ 9223372036854775807 := by omega
  have HA := hide hA
  have HT := hide ht
  clear hA ht
  unfold partV
  go_enter Try.func21, Try.ntmps21
  go_wp2_with fail
  refine (iFaceBelow_c p s _ p.layers.length _ (RdL.below HT.out (below_alloc (Below.refl _ _) _) (Nat.le_refl _)) (Nat.le_refl _)).mono ?_; rintro e w1 ⟨rfl, hb1⟩
  go_wp2
  go_ret
  exact ⟨rfl, (below_alloc (Below.refl _ _) _).trans (hb1.mono (by simp))⟩
theorem sFaceOf_c (p : Pu.PartD) (s t : Value) (w : World) (ht : RdL w 2 layerEn t p.layers) :
    Calls Try.prog 51 #[partV p s t] w fun e w' => e = .returned (.int .i64 (Pu.faceAt p p.layers.length)) ∧ Below w.heap.size w w' := by
  obtain ⟨A, c, rfl, hlc, hcm, hA⟩ := ht.open_
  have hlm : p.layers.length ≤ 9223372036854775807 := by omega
  have HA := hide hA
  have HT := hide ht
  clear hA ht
  unfold partV
  go_enter Try.func51, Try.ntmps51
  go_wp2_with fail
  refine (sFaceBelow_c p s _ p.layers.length _ (RdL.below HT.out (below_alloc (Below.refl _ _) _) (Nat.le_refl _)) (Nat.le_refl _)).mono ?_; rintro e w1 ⟨rfl, hb1⟩
  go_wp2
  go_ret
  exact ⟨rfl, (below_alloc (Below.refl _ _) _).trans (hb1.mono (by simp))⟩
end Go.Proofs.Ytplcdnahiimenaa
