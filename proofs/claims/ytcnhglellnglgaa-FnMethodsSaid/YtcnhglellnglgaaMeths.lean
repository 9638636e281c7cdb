/- Contracts: the methods of a face. -/
import Derived.Test.YtcnhglellnglgaaApp
import Derived.Test.YtcnhglellnglgaaAsc
import Derived.Test.YtcnhglellnglgaaMeth
import Derived.Test.YtcnhglellnglgaaFace
namespace Go.Proofs.Ytcnhglellnglgaa
open Go.ChangeShapes Go.WideShapes Go.ChangeAt Go.RowKit
set_option maxRecDepth 100000
/-- the methods of the face's abilities below k, ability by ability -/
def Pu.methsTo (f : Int) : Nat → List ByteArray
  | 0 => []
  | k + 1 => Pu.methsTo f k ++ (if Pu.hasB f k then Pu.methB k else [])
def Pu.methsF (f : Int) : List ByteArray := if Pu.faceB f then Pu.asc (Pu.methsTo f 6) else []
theorem Pu.methB_len (k : Nat) : (Pu.methB k).length ≤ 2 := by
  rw [Pu.methB, List.length_map]
  match k with
  | 0 | 1 | 2 | 3 | 4 | 5 => decide
  | k + 6 => simp [Pu.meth]
theorem Pu.methsTo_len (f : Int) : ∀ k, (Pu.methsTo f k).length ≤ 2 * k
  | 0 => by simp [Pu.methsTo]
  | k + 1 => by
    have := Pu.methsTo_len f k
    have := Pu.methB_len k
    rw [Pu.methsTo, List.length_append]
    split <;> simp <;> omega
theorem Pu.methsF_len (f : Int) : (Pu.methsF f).length ≤ 12 := by
  rw [Pu.methsF]
  split
  · exact Nat.le_trans (Pu.asc_len _) (Pu.methsTo_len f 6)
  · simp
theorem bit_has : ∀ n : Nat, n < 64 → ∀ k : Nat, k < 6 → (bits .and .i64 ((n : Int) / 2 ^ k) 1 = 1 ↔ Pu.hasB (n : Int) k = true) := by decide +kernel
set_option maxHeartbeats 1000000 in
theorem iFaceMethods_c (f : Int) (w : World) :
    Calls Try.prog 14 #[.int .i64 f] w fun e w' => ∃ v, e = .returned v ∧ OwnL w' w.heap.size 9 1 strEn v (Pu.methsF f) ∧ Below w.heap.size w w' := by
  obtain ⟨i0, hi, hz0, hz1, hz2⟩ := info_parts info_str
  rcases hf : Pu.faceB f with _ | _
  · go_enter Try.func14, Try.ntmps14
    go_wp2_with fail
    refine (iIsFace_c _ _).mono ?_; rintro e w' ⟨rfl, rfl⟩
    go_wp2
    go_ret
    exact ⟨_, rfl, by rw [Pu.methsF, hf]; exact OwnL.nil _ _ _ _ _, Below.refl _ _⟩
  · have HF : Hid (Pu.methsF f = Pu.asc (Pu.methsTo f 6)) := by rw [Hid, Pu.methsF, hf]; rfl
    go_enter Try.func14, Try.ntmps14
    go_wp2_with fail
    refine (iIsFace_c _ _).mono ?_; rintro e w' ⟨rfl, rfl⟩
    rw [hf]
    go_wp2
    go_loopw [3, 8] (fun v i wr => ∃ k : Nat, k ≤ 6 ∧ i = .int .i64 k ∧ OwnL wr w.heap.size 9 1 strEn v (Pu.methsTo f k) ∧ Below w.heap.size w wr) (fun _ i _ => 6 - (intOf i).toNat)
    case atStart => exact ⟨0, by omega, rfl, OwnL.nil _ _ _ _ _, Below.refl _ _⟩
    case round =>
      obtain ⟨k, hk, rfl, hown, hb⟩ := hrel
      by_cases hlt : k < 6
      · obtain ⟨n, rfl, hn⟩ := faceB_nat hf
        have hbit := bit_has n hn k hlt
        have hml := Pu.methB_len k
        have htl := Pu.methsTo_len n k
        by_cases hx : bits .and .i64 ((n : Int) / 2 ^ k) 1 = 1
        · have HX : Hid (Pu.hasB n k = true) := hbit.1 hx
          go_wp2_with (first
            | (go_at_call 28; refine (iMethodsOf_c k _ hlt).mono ?_; rintro e w1 ⟨v1, rfl, hv1, hb1⟩)
            | (at_builtin; go_must (refine app_law rfl _ _ 22 (by exact rfl) w.heap.size 9 i0 _ 1 16 Try.underlying22 hi hz0 hz1 hz2 rfl (by decide) strEn (fun _ => rfl) one_strEn _ _ _ _ (by exact rfl) (hown.below hb1 (Nat.le_refl _)) (by exact rfl) hv1 (Nat.le_trans hb.size hb1.size) (by omega) (by decide) ?_); intro v2 w2 hown2 hg2))
          have hb2 : Below w.heap.size w w2 := (below_then hb hb1).grown hg2 (Nat.le_trans hb.size hb1.size) (fun k hk => (World.ownsRow.lt hown k hk).1)
          go_roundw
          case rel => exact ⟨k + 1, by omega, by go_num, by rw [Pu.methsTo, HX.out]; exact hown2, hb2⟩
          case measure => simp [intOf]; omega
        · have HX : Hid (Pu.hasB n k = false) := by rw [Hid, Bool.eq_false_iff]; exact fun h => hx (hbit.2 h)
          go_wp2
          go_roundw
          case rel => exact ⟨k + 1, by omega, by go_num, by rw [Pu.methsTo, HX.out]; simpa using hown, hb⟩
          case measure => simp [intOf]; omega
      · obtain rfl : k = 6 := by omega
        have htl := Pu.methsTo_len f 6
        go_wp2_with fail
        refine (iAscending_c _ _ _ (hown.rd (fun _ => rfl)) (by omega)).mono ?_; rintro e w1 ⟨v1, rfl, o1, b1⟩
        go_wp2
        go_ret
        exact ⟨_, rfl, by rw [HF.out]; exact o1.mono hb.size, below_then hb b1⟩
set_option maxHeartbeats 1000000 in
theorem sFaceMethods_c (f : Int) (w : World) :
    Calls Try.prog 13 #[.int .i64 f] w fun e w' => ∃ v, e = .returned v ∧ OwnL w' w.heap.size 9 1 strEn v (Pu.methsF f) ∧ Below w.heap.size w w' := by
  obtain ⟨i0, hi, hz0, hz1, hz2⟩ := info_parts info_str
  rcases hf : Pu.faceB f with _ | _
  · have HF : Hid (Pu.methsF f = Pu.asc []) := by rw [Hid, Pu.methsF, hf]; rfl
    have h0 := World.ownsRow_made w (e := 9) (size := 1) #[] 0 (Nat.le_refl _) (Nat.zero_le _) rfl
    have o0 : OwnL (w.alloc (.cells #[] 9 : Obj)) w.heap.size 9 1 strEn _ [] := h0
    have r0 : RdStr (w.alloc (.cells #[] 9 : Obj)) _ [] := o0.rd (fun _ => rfl)
    go_enter Try.func13, Try.ntmps13
    go_wp2
    refine wp_loop_rounds 1 ?_
    rw [rounds_succ]
    go_wp2_with (first
      | (go_at_call 18; refine (sIsFace_c _ _).mono ?_; rintro e w' ⟨rfl, rfl⟩; rw [hf])
      | (go_at_call 7; refine (sAscending_c _ _ _ r0 (by simp)).mono ?_; rintro e w1 ⟨v1, rfl, o1, b1⟩))
    go_ret
    exact ⟨_, rfl, by rw [HF.out]; exact o1.mono (by simp), below_then (below_alloc (Below.refl _ _) _) b1⟩
  · have HF : Hid (Pu.methsF f = Pu.asc (Pu.methsTo f 6)) := by rw [Hid, Pu.methsF, hf]; rfl
    go_enter Try.func13, Try.ntmps13
    go_wp2
    go_loopw [3, 4] (fun v i wr => ∃ k : Nat, k ≤ 6 ∧ i = .int .i64 k ∧ OwnL wr w.heap.size 9 1 strEn v (Pu.methsTo f k) ∧ Below w.heap.size w wr) (fun _ i _ => 6 - (intOf i).toNat)
    case atStart => exact ⟨0, by omega, rfl, World.ownsRow_made w #[] 0 (Nat.le_refl _) (Nat.zero_le _) rfl, below_alloc (Below.refl _ _) _⟩
    case round =>
      obtain ⟨k, hk, rfl, hown, hb⟩ := hrel
      by_cases hlt : k < 6
      · obtain ⟨n, rfl, hn⟩ := faceB_nat hf
        have hml := Pu.methB_len k
        have htl := Pu.methsTo_len n k
        rcases hx : Pu.hasB n k with _ | _
        · go_wp2_with (first
            | (go_at_call 18; refine (sIsFace_c _ _).mono ?_; rintro e w' ⟨rfl, rfl⟩; rw [hf])
            | (go_at_call 26; refine (l2Has_c _ _ _ (by omega) (by omega) (by omega)).mono ?_; rintro e w' ⟨rfl, rfl⟩; rw [hx]))
          go_roundw
          case rel => exact ⟨k + 1, by omega, by go_num, by rw [Pu.methsTo, hx]; simpa using hown, hb⟩
          case measure => simp [intOf]; omega
        · go_wp2_with (first
            | (go_at_call 18; refine (sIsFace_c _ _).mono ?_; rintro e w' ⟨rfl, rfl⟩; rw [hf])
            | (go_at_call 26; refine (l2Has_c _ _ _ (by omega) (by omega) (by omega)).mono ?_; rintro e w' ⟨rfl, rfl⟩; rw [hx])
            | (go_at_call 27; refine (sMethods_c k _ hlt).mono ?_; rintro e w1 ⟨v1, rfl, hv1, hb1⟩)
            | (at_builtin; go_must (refine app_law rfl _ _ 22 (by exact rfl) w.heap.size 9 i0 _ 1 16 Try.underlying22 hi hz0 hz1 hz2 rfl (by decide) strEn (fun _ => rfl) one_strEn _ _ _ _ (by exact rfl) (hown.below hb1 (Nat.le_refl _)) (by exact rfl) hv1 (Nat.le_trans hb.size hb1.size) (by omega) (by decide) ?_); intro v2 w2 hown2 hg2))
          have hb2 : Below w.heap.size w w2 := (below_then hb hb1).grown hg2 (Nat.le_trans hb.size hb1.size) (fun k hk => (World.ownsRow.lt hown k hk).1)
          go_roundw
          case rel => exact ⟨k + 1, by omega, by go_num, by rw [Pu.methsTo, hx]; exact hown2, hb2⟩
          case measure => simp [intOf]; omega
      · obtain rfl : k = 6 := by omega
        have htl := Pu.methsTo_len f 6
        go_wp2_with (first
            | (go_at_call 18; refine (sIsFace_c _ _).mono ?_; rintro e w' ⟨rfl, rfl⟩; rw [hf])
            | (go_at_call 7; refine (sAscending_c _ _ _ (hown.rd (fun _ => rfl)) (by omega)).mono ?_; rintro e w1 ⟨v1, rfl, o1, b1⟩))
        go_ret
        exact ⟨_, rfl, by rw [HF.out]; exact o1.mono hb.size, below_then hb b1⟩
end Go.Proofs.Ytcnhglellnglgaa
