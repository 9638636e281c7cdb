/- Contracts: faces as texts. -/
import Derived.Test.YtfmjcmhofjibmaaDoorAbName
import Derived.Test.YtfmjcmhofjibmaaDoorFace
import Derived.Test.YtfmjcmhofjibmaaDoorJoin
namespace Go.Proofs.YtfmjcmhofjibmaaDoor
open Go.ChangeShapes Go.WideShapes Go.ChangeAt Go.RowKit
set_option maxRecDepth 100000
theorem Pu.ofL {s : ByteArray} {b : List UInt8} (h : s.toList = b) : s = ⟨b.toArray⟩ := by
  subst h; rw [Lib.toList_data]
theorem one_txt (n : ByteArray) : ∀ u ∈ [Value.string n], u.oneCell' = true := by simp [Value.oneCell']
theorem Pu.joinB_size (sep : ByteArray) (l : List ByteArray) : (Pu.joinB sep l).size ≤ l.length * sep.size + Pu.tot l := by
  rw [← Pu.joinB_lib]
  exact Nat.le_trans (Nat.le_of_eq (by simp [ByteArray.size])) (Pu.joinLen sep l)
def Pu.nm (k : Nat) : ByteArray := ⟨((Pu.abL[k]?).getD []).toArray⟩
def Pu.namesTo (f : Int) : Nat → List ByteArray
  | 0 => []
  | k + 1 => Pu.namesTo f k ++ (if Pu.hasB f k then [Pu.nm k] else [])
theorem Pu.nm_size : ∀ k : Nat, k < 6 → (Pu.nm k).size ≤ 4 := by decide
theorem Pu.namesTo_len (f : Int) : ∀ k, (Pu.namesTo f k).length ≤ k
  | 0 => by simp [Pu.namesTo]
  | k + 1 => by
    have := Pu.namesTo_len f k
    rw [Pu.namesTo, List.length_append]
    split <;> simp <;> omega
theorem Pu.namesTo_tot (f : Int) : ∀ k, k ≤ 6 → Pu.tot (Pu.namesTo f k) ≤ 4 * k
  | 0, _ => by simp [Pu.namesTo, Pu.tot]
  | k + 1, h => by
    have := Pu.namesTo_tot f k (by omega)
    have := Pu.nm_size k (by omega)
    rw [Pu.namesTo, Pu.tot_app]
    split <;> simp [Pu.tot] <;> omega
def Pu.plusB : ByteArray := ⟨#[43]⟩
def Pu.noneB : ByteArray := ⟨#[110, 111, 110, 101]⟩
def Pu.faceT (f : Int) : ByteArray := if Pu.faceB f then (if f = 0 then Pu.noneB else Pu.joinB Pu.plusB (Pu.namesTo f 6)) else ⟨#[]⟩
theorem Pu.faceT_size (f : Int) : (Pu.faceT f).size ≤ 32 := by
  have h1 := Pu.joinB_size Pu.plusB (Pu.namesTo f 6)
  have h2 := Pu.namesTo_len f 6
  have h3 := Pu.namesTo_tot f 6 (Nat.le_refl _)
  have h4 : Pu.plusB.size = 1 := rfl
  rw [h4] at h1
  unfold Pu.faceT
  split
  · split
    · decide
    · omega
  · decide
theorem bit_hasF : ∀ n : Nat, n < 64 → ∀ k : Nat, k < 6 → (bits .and .i64 ((n : Int) / 2 ^ k) 1 = 1 ↔ Pu.hasB (n : Int) k = true) := by decide +kernel
theorem ab_cell {w : World} (hV : AbVars w) {k : Nat} (hk : k < 6) : w.cell? ⟨0, k, none⟩ = some (.string (Pu.nm k)) := by
  obtain ⟨s, hs, _, hc⟩ := hV k (Pu.abL[k]'(by exact hk)) (List.getElem?_eq_getElem _)
  rw [hc, Pu.ofL hs, Pu.nm, List.getElem?_eq_getElem (by exact hk)]; rfl
set_option maxHeartbeats 1000000 in
theorem iFormatFace_c (f : Int) (w : World) (hV : AbVars w) :
    Calls Tryd.prog 33 #[.int .i64 f] w fun e w' => e = .returned (.string (Pu.faceT f)) ∧ Below w.heap.size w w' := by
  obtain ⟨i0, hi, hz0, hz1, hz2⟩ := info_parts info_str
  rcases hf : Pu.faceB f with _ | _
  · have HF : Hid (Pu.faceT f = ⟨#[]⟩) := by rw [Hid, Pu.faceT, hf]; rfl
    go_enter Tryd.func33, Tryd.ntmps33
    go_wp2_with fail
    refine (iIsFace_c _ _).mono ?_; rintro e w' ⟨rfl, rfl⟩
    go_wp2
    go_ret
    exact ⟨ret_str HF.out.symm, Below.refl _ _⟩
  by_cases h0 : f = 0
  · have HF : Hid (Pu.faceT f = Pu.noneB) := by rw [Hid, Pu.faceT, hf, if_pos rfl, if_pos h0]
    subst h0
    go_enter Tryd.func33, Tryd.ntmps33
    go_wp2_with fail
    refine (iIsFace_c _ _).mono ?_; rintro e w' ⟨rfl, rfl⟩
    rw [hf]
    go_wp2
    go_ret
    exact ⟨ret_str HF.out.symm, Below.refl _ _⟩
  have HF : Hid (Pu.faceT f = Pu.joinB Pu.plusB (Pu.namesTo f 6)) := by rw [Hid, Pu.faceT, hf, if_pos rfl, if_neg h0]
  obtain ⟨n, rfl, hn⟩ := faceB_nat hf
  have hz : ((n : Int) == 0) = false := by simpa using h0
  have hz' : decide ((n : Int) = 0) = false := by simpa using h0
  have hzz : ((n : Int) = 0) = False := by simpa using h0
  clear h0
  have c0 := ab_cell hV (k := 0) (by decide)
  have c1 := ab_cell hV (k := 1) (by decide)
  have c2 := ab_cell hV (k := 2) (by decide)
  have c3 := ab_cell hV (k := 3) (by decide)
  have c4 := ab_cell hV (k := 4) (by decide)
  have c5 := ab_cell hV (k := 5) (by decide)
  clear hV
  have hix : ∀ k : Nat, k < 6 → ∀ w : World, (Instr.index 74 (.agg #[.string (Pu.nm 0), .string (Pu.nm 1), .string (Pu.nm 2), .string (Pu.nm 3), .string (Pu.nm 4), .string (Pu.nm 5)]) (.int .i64 k)).run Tryd.prog w = .ok (.string (Pu.nm k)) w := by
    intro k hk w
    obtain rfl | rfl | rfl | rfl | rfl | rfl : k = 0 ∨ k = 1 ∨ k = 2 ∨ k = 3 ∨ k = 4 ∨ k = 5 := by omega
    all_goals kernel_rfl
  have HIX := hide hix
  clear hix
  go_enter Tryd.func33, Tryd.ntmps33
  go_wp2_with fail
  refine (iIsFace_c _ _).mono ?_; rintro e w' ⟨rfl, rfl⟩
  rw [hf]
  go_wp2
  go_loopw [3, 12] (fun v i wr => ∃ k : Nat, k ≤ 6 ∧ i = .int .i64 k ∧ OwnL wr w.heap.size 9 1 strEn v (Pu.namesTo n k) ∧ Below w.heap.size w wr) (fun _ i _ => 6 - (intOf i).toNat)
  case atStart => exact ⟨0, by omega, rfl, OwnL.nil _ _ _ _ _, Below.refl _ _⟩
  case round =>
    obtain ⟨k, hk, rfl, hown, hb⟩ := hrel
    by_cases hlt : k < 6
    · have hbit := bit_hasF n hn k hlt
      have hlen := Pu.namesTo_len n k
      have hik := HIX.out k hlt
      by_cases hx : bits .and .i64 ((n : Int) / 2 ^ k) 1 = 1
      · have HX : Hid (Pu.hasB n k = true) := hbit.1 hx
        go_wp2_with (at_builtin; go_must (refine push_law rfl _ _ 53 (by exact rfl) w.heap.size 9 i0 (.string ByteArray.empty) 1 16 Tryd.underlying53 hi hz0 hz1 hz2 rfl (by decide) strEn _ _ (Pu.nm k) (by exact rfl) hown (by exact rfl) rfl (one_txt _) hb (Nat.le_refl _) hb.size (by omega) (by decide) ?_); intro v1 w1 hown1 hg1 hb1)
        go_roundw
        case rel => exact ⟨k + 1, by omega, by go_num, by rw [Pu.namesTo, HX.out]; exact hown1, hb1⟩
        case measure => simp [intOf]; omega
      · have HX : Hid (Pu.hasB n k = false) := by rw [Hid, Bool.eq_false_iff]; exact fun h => hx (hbit.2 h)
        go_wp2
        go_roundw
        case rel => exact ⟨k + 1, by omega, by go_num, by rw [Pu.namesTo, HX.out]; simpa using hown, hb⟩
        case measure => simp [intOf]; omega
    · obtain rfl : k = 6 := by omega
      have hlen := Pu.namesTo_len n 6
      have htot := Pu.namesTo_tot n 6 (Nat.le_refl _)
      go_wp2_with fail
      refine (iJoinWith_c _ _ _ _ (hown.rd (fun _ => rfl)) (by omega) (by decide) (by omega)).mono ?_; rintro e w1 ⟨rfl, b1⟩
      go_wp2
      go_ret
      exact ⟨ret_str HF.out.symm, below_then hb b1⟩
theorem sName_nm (k : Nat) (hk : k < 6) (w : World) :
    Calls Tryd.prog 55 #[.int .i64 k] w fun e w' => e = .returned (.string (Pu.nm k)) ∧ Below w.heap.size w w' := by
  refine (sAbilityName_c k w).mono ?_
  rintro e w' ⟨⟨s, hs, _, rfl⟩, hb⟩
  refine ⟨ret_str ?_, hb⟩
  rw [Pu.ofL hs, Pu.abName, if_neg (by omega), Int.toNat_natCast]; rfl
set_option maxHeartbeats 1000000 in
theorem sFormatFace_c (f : Int) (w : World) :
    Calls Tryd.prog 32 #[.int .i64 f] w fun e w' => e = .returned (.string (Pu.faceT f)) ∧ Below w.heap.size w w' := by
  obtain ⟨i0, hi, hz0, hz1, hz2⟩ := info_parts info_str
  rcases hf : Pu.faceB f with _ | _
  · have HF : Hid (Pu.faceT f = ⟨#[]⟩) := by rw [Hid, Pu.faceT, hf]; rfl
    have hne : ¬ f = 0 := fun h => by rw [h] at hf; exact absurd hf (by decide)
    have h0 := World.ownsRow_made w (e := 9) (size := 1) #[] 0 (Nat.le_refl _) (Nat.zero_le _) rfl
    have o0 : OwnL (w.alloc (.cells #[] 9 : Obj)) w.heap.size 9 1 strEn _ [] := h0
    have r0 : RdStr (w.alloc (.cells #[] 9 : Obj)) _ [] := o0.rd (fun _ => rfl)
    go_enter Tryd.func32, Tryd.ntmps32
    go_wp2
    refine wp_loop_rounds 1 ?_
    rw [rounds_succ]
    go_wp2_with (first
      | (go_at_call 53; refine (sIsFace_c _ _).mono ?_; rintro e w' ⟨rfl, rfl⟩; rw [hf])
      | (go_at_call 36; refine (sJoinWith_c _ _ _ _ r0 (by simp) (by decide) (by simp [Pu.tot])).mono ?_; rintro e w1 ⟨rfl, b1⟩))
    go_ret
    exact ⟨ret_str (by rw [HF.out]; rfl), below_then (below_alloc (Below.refl _ _) _) b1⟩
  · go_enter Tryd.func32, Tryd.ntmps32
    go_wp2
    go_loopw [3, 4] (fun v i wr => ∃ k : Nat, k ≤ 6 ∧ i = .int .i64 k ∧ OwnL wr w.heap.size 9 1 strEn v (Pu.namesTo f k) ∧ Below w.heap.size w wr) (fun _ i _ => 6 - (intOf i).toNat)
    case atStart => exact ⟨0, by omega, rfl, World.ownsRow_made w #[] 0 (Nat.le_refl _) (Nat.zero_le _) rfl, below_alloc (Below.refl _ _) _⟩
    case round =>
      obtain ⟨k, hk, rfl, hown, hb⟩ := hrel
      by_cases hlt : k < 6
      · obtain ⟨n, rfl, hn⟩ := faceB_nat hf
        have hlen := Pu.namesTo_len n k
        rcases hx : Pu.hasB n k with _ | _
        · go_wp2_with (first
            | (go_at_call 53; refine (sIsFace_c _ _).mono ?_; rintro e w' ⟨rfl, rfl⟩; rw [hf])
            | (go_at_call 54; refine (l2Has_c _ _ _ (by omega) (by omega) (by omega)).mono ?_; rintro e w' ⟨rfl, rfl⟩; rw [hx]))
          go_roundw
          case rel => exact ⟨k + 1, by omega, by go_num, by rw [Pu.namesTo, hx]; simpa using hown, hb⟩
          case measure => simp [intOf]; omega
        · go_wp2_with (first
            | (go_at_call 53; refine (sIsFace_c _ _).mono ?_; rintro e w' ⟨rfl, rfl⟩; rw [hf])
            | (go_at_call 54; refine (l2Has_c _ _ _ (by omega) (by omega) (by omega)).mono ?_; rintro e w' ⟨rfl, rfl⟩; rw [hx])
            | (go_at_call 55; refine (sName_nm k hlt _).mono ?_; rintro e w1 ⟨rfl, b1⟩; have hb' := below_then hb b1; have hown' := hown.below b1 (Nat.le_refl _))
            | (at_builtin; go_must (refine push_law rfl _ _ 53 (by exact rfl) w.heap.size 9 i0 (.string ByteArray.empty) 1 16 Tryd.underlying53 hi hz0 hz1 hz2 rfl (by decide) strEn _ _ (Pu.nm k) (by exact rfl) hown' (by exact rfl) rfl (one_txt _) hb' (Nat.le_refl _) hb'.size (by omega) (by decide) ?_); intro v2 w2 hown2 hg2 hb2))
          go_roundw
          case rel => exact ⟨k + 1, by omega, by go_num, by rw [Pu.namesTo, hx]; exact hown2, hb2⟩
          case measure => simp [intOf]; omega
      · obtain rfl : k = 6 := by omega
        have hlen := Pu.namesTo_len f 6
        have htot := Pu.namesTo_tot f 6 (Nat.le_refl _)
        by_cases h0 : f = 0
        · have HF : Hid (Pu.faceT f = Pu.noneB) := by rw [Hid, Pu.faceT, hf, if_pos rfl, if_pos h0]
          go_wp2_with (first
            | (go_at_call 53; refine (sIsFace_c _ _).mono ?_; rintro e w' ⟨rfl, rfl⟩; rw [hf]))
          go_ret
          exact ⟨ret_str HF.out.symm, hb⟩
        · have HF : Hid (Pu.faceT f = Pu.joinB Pu.plusB (Pu.namesTo f 6)) := by rw [Hid, Pu.faceT, hf, if_pos rfl, if_neg h0]
          go_wp2_with (first
            | (go_at_call 53; refine (sIsFace_c _ _).mono ?_; rintro e w' ⟨rfl, rfl⟩; rw [hf])
            | (go_at_call 36; refine (sJoinWith_c _ _ _ _ (hown.rd (fun _ => rfl)) (by omega) (by decide) (by omega)).mono ?_; rintro e w1 ⟨rfl, b1⟩))
          go_ret
          exact ⟨ret_str HF.out.symm, below_then hb b1⟩
end Go.Proofs.YtfmjcmhofjibmaaDoor
