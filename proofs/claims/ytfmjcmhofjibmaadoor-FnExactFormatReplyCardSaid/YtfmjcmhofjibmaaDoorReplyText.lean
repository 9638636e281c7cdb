/- Contracts: replies as texts. -/
import Derived.Test.YtfmjcmhofjibmaaDoorNumText
import Derived.Test.YtfmjcmhofjibmaaDoorFaceText
import Derived.Test.YtfmjcmhofjibmaaDoorOpenReply
import Derived.Deep.RegionHeld3
namespace Go.Proofs.YtfmjcmhofjibmaaDoor
open Go.ChangeShapes Go.WideShapes Go.ChangeAt Go.RowKit
set_option maxRecDepth 100000
theorem Pu.numB_20 {n : Int} (h : (Lit.int .i64 n).wf = true) : (Pu.numB n).size ≤ 20 := by
  have := Pu.itoa_len (wf_range h).1 (wf_range h).2
  have e : (Pu.numB n).size = (Lib.itoa n).length := rfl
  omega
def Pu.replyT (r : Pu.ReplyD) : ByteArray :=
  if r.code = 0 then (if r.text.toList == [] then ⟨#[111, 107, 32]⟩ ++ Pu.numB r.value else ⟨#[111, 107, 32]⟩ ++ Pu.numB r.value ++ (⟨#[32]⟩ ++ r.text))
  else if r.code = 1 then ⟨#[97, 115, 115, 101, 114, 116, 32]⟩ ++ Pu.faceT r.want ++ ⟨#[32, 111, 102, 32]⟩ ++ Pu.faceT r.had
  else if r.code = 2 then ⟨#[111, 102, 102]⟩ else if r.code = 3 then ⟨#[98, 114, 111, 107, 101, 110]⟩ else if r.code = 4 then ⟨#[110, 111, 110, 101]⟩ else if r.code = 5 then ⟨#[102, 117, 108, 108]⟩
  else if r.code = 6 then ⟨#[114, 101, 102, 117, 115, 101, 100]⟩ else if r.code = 7 then ⟨#[98, 97, 100]⟩ else ⟨#[]⟩
theorem Pu.replyT_none {r : Pu.ReplyD} (h : r.code < 0 ∨ 7 < r.code) : Pu.replyT r = ⟨#[]⟩ := by
  unfold Pu.replyT
  rw [if_neg (by omega), if_neg (by omega), if_neg (by omega), if_neg (by omega), if_neg (by omega), if_neg (by omega), if_neg (by omega), if_neg (by omega)]
theorem five_of {W : World} {g : Nat} {t : TypeId} {a b c d f : Value} (h : W.heap[g]? = some (.cells #[a, b, c, d, f] t (0, 0))) :
    W.cell? ⟨g, 0, none⟩ = some a ∧ W.cell? ⟨g, 1, none⟩ = some b ∧ W.cell? ⟨g, 2, none⟩ = some c ∧ W.cell? ⟨g, 3, none⟩ = some d ∧ W.cell? ⟨g, 4, none⟩ = some f ∧ ∀ j, W.frozen? ⟨g, j, none⟩ = false :=
  ⟨cell_of_row W g 0 _ t (0, 0) h, cell_of_row W g 1 _ t (0, 0) h, cell_of_row W g 2 _ t (0, 0) h, cell_of_row W g 3 _ t (0, 0) h, cell_of_row W g 4 _ t (0, 0) h, fun j => frozen_of_row W g j _ t h⟩
set_option maxHeartbeats 4000000 in
theorem iFormatReply_c (r : Pu.ReplyD) (w : World) (hT : Pow10 w) (hV : AbVars w) (hw : ReplyD.wf r) (htx : r.text.size ≤ 1048576) :
    Calls Tryd.prog 18 #[replyV r] w fun e w' => e = .returned (.string (Pu.replyT r)) ∧ Below w.heap.size w w' := by
  obtain ⟨code, value, text, want, had⟩ := r
  obtain ⟨_, wv, _, _, _⟩ := hw
  have hn20 := Pu.numB_20 wv
  have hrg := wf_range wv
  have hlt0 := hT.lt
  have hlt1 := hV.lt
  have HT := hide hT
  have HV := hide hV
  clear hT hV wv
  simp only at htx hn20 hrg
  unfold replyV
  obtain ⟨w0, hw0⟩ : ∃ w0, Hid (w.alloc (.cells #[.int .i64 code, .int .i64 value, .string text, .int .i64 want, .int .i64 had] 35 : Obj) = w0) := ⟨_, rfl⟩
  have b0 : Below w.heap.size w w0 := by rw [← hw0.out]; exact below_alloc (Below.refl _ _) _
  have Y0 := hide (show w0.heap[w.heap.size]? = some (.cells #[.int .i64 code, .int .i64 value, .string text, .int .i64 want, .int .i64 had] 35 : Obj) by rw [← hw0.out]; exact heap_new rfl)
  have hL0 : w.heap.size < w0.heap.size := by rw [← hw0.out]; simp
  have HT0 := hide (HT.out.below b0 hlt0)
  have HV0 := hide (HV.out.below b0 hlt1)
  have hltT := HT0.out.lt
  have hltV := HV0.out.lt
  have HB0 := hide b0
  clear b0
  by_cases hc : code < 0 ∨ 7 < code
  · have HF := hide (Pu.replyT_none (r := ⟨code, value, text, want, had⟩) hc)
    have n0 : ¬ code = 0 := by omega
    have n1 : ¬ code = 1 := by omega
    have n2 : ¬ code = 2 := by omega
    have n3 : ¬ code = 3 := by omega
    have n4 : ¬ code = 4 := by omega
    have n5 : ¬ code = 5 := by omega
    have n6 : ¬ code = 6 := by omega
    have n7 : ¬ code = 7 := by omega
    go_enter Tryd.func18, Tryd.ntmps18
    go_wp2
    go_ret
    exact ⟨ret_str HF.out.symm, by rw [hw0.out]; exact HB0.out⟩
  obtain ⟨_, _, _, _, _, _⟩ := five_of Y0.out
  obtain rfl | rfl | rfl | rfl | rfl | rfl | rfl | rfl : code = 0 ∨ code = 1 ∨ code = 2 ∨ code = 3 ∨ code = 4 ∨ code = 5 ∨ code = 6 ∨ code = 7 := by omega
  · have hz1 : ¬ 9223372036854775807 < 3 + (Pu.numB value).size := by omega
    have hz2 : ¬ 9223372036854775807 < 1 + text.size := by omega
    have hz3 : ¬ 9223372036854775807 < 3 + (Pu.numB value).size + (1 + text.size) := by omega
    go_enter Tryd.func18, Tryd.ntmps18
    go_wp2_with fail
    rw [hw0.out]
    refine (iFormatNumber_c value _ HT0.out hrg.1 hrg.2).mono ?_; rintro e w1 ⟨rfl, b1⟩
    obtain ⟨c0, c1, c2, c3, c4, cf⟩ := five_of ((b1.block w.heap.size hL0).trans Y0.out)
    rcases ht : (text.toList == []) with _ | _
    · go_wp2
      go_ret
      exact ⟨ret_str (by rw [Pu.replyT]; simp only [ht]; rfl), below_then HB0.out b1⟩
    · go_wp2
      go_ret
      exact ⟨ret_str (by rw [Pu.replyT]; simp only [ht]; rfl), below_then HB0.out b1⟩
  · have f1 := Pu.faceT_size want
    have f2 := Pu.faceT_size had
    have hz1 : ¬ 9223372036854775807 < 7 + (Pu.faceT want).size := by omega
    have hz2 : ¬ 9223372036854775807 < 7 + (Pu.faceT want).size + 4 := by omega
    have hz3 : ¬ 9223372036854775807 < 7 + (Pu.faceT want).size + 4 + (Pu.faceT had).size := by omega
    go_enter Tryd.func18, Tryd.ntmps18
    go_wp2_with fail
    rw [hw0.out]
    have K0 : Below w0.heap.size w0 w0 := Below.refl _ _
    go_region_held3 (fun w' => w'.cell? ⟨w.heap.size, 3, none⟩ = some (.int .i64 want) ∧ w'.cell? ⟨w.heap.size, 4, none⟩ = some (.int .i64 had)) (go_keep)
      (first
        | (go_at_call 33;
            refine (iFormatFace_c _ _ (HV0.out.below (by first | exact KWX | exact K0 | exact K0.drew) hltV)).mono ?_;
            rintro e WX ⟨rfl, bX⟩;
            have KWX : Below w0.heap.size w0 WX := below_then (by first | exact KWX | exact K0 | exact K0.drew) bX;
            have KX : ∀ k : Nat, WX.cell? ⟨w.heap.size, k, none⟩ = _ := fun k => KWX.cell hL0))
    all_goals
      go_wp2
      go_ret
      exact ⟨ret_str (by rw [Pu.replyT]; rfl), below_then HB0.out KWX⟩
  all_goals
    go_enter Tryd.func18, Tryd.ntmps18
    go_wp2
    go_ret
    exact ⟨ret_str rfl, by rw [hw0.out]; exact HB0.out⟩
set_option maxHeartbeats 4000000 in
theorem sFormatReply_c (r : Pu.ReplyD) (w : World) (hw : ReplyD.wf r) (htx : r.text.size ≤ 1048576) :
    Calls Tryd.prog 16 #[replyV r] w fun e w' => e = .returned (.string (Pu.replyT r)) ∧ Below w.heap.size w w' := by
  obtain ⟨code, value, text, want, had⟩ := r
  obtain ⟨_, wv, _, _, _⟩ := hw
  have hn20 := Pu.numB_20 wv
  have hrg := wf_range wv
  clear wv
  simp only at htx hn20 hrg
  unfold replyV
  obtain ⟨w0, hw0⟩ : ∃ w0, Hid (w.alloc (.cells #[.int .i64 code, .int .i64 value, .string text, .int .i64 want, .int .i64 had] 35 : Obj) = w0) := ⟨_, rfl⟩
  have b0 : Below w.heap.size w w0 := by rw [← hw0.out]; exact below_alloc (Below.refl _ _) _
  have Y0 := hide (show w0.heap[w.heap.size]? = some (.cells #[.int .i64 code, .int .i64 value, .string text, .int .i64 want, .int .i64 had] 35 : Obj) by rw [← hw0.out]; exact heap_new rfl)
  have hL0 : w.heap.size < w0.heap.size := by rw [← hw0.out]; simp
  have HB0 := hide b0
  clear b0
  by_cases hc : code < 0 ∨ 7 < code
  · have HF := hide (Pu.replyT_none (r := ⟨code, value, text, want, had⟩) hc)
    have n0 : ¬ code = 0 := by omega
    have n1 : ¬ code = 1 := by omega
    rcases hc with hc | hc
    · go_enter Tryd.func16, Tryd.ntmps16
      go_wp2
      go_ret
      exact ⟨ret_str HF.out.symm, by rw [hw0.out]; exact HB0.out⟩
    · have hc0 : ¬ code < 0 := by omega
      go_enter Tryd.func16, Tryd.ntmps16
      go_wp2
      go_ret
      exact ⟨ret_str HF.out.symm, by rw [hw0.out]; exact HB0.out⟩
  obtain ⟨_, _, _, _, _, _⟩ := five_of Y0.out
  obtain rfl | rfl | rfl | rfl | rfl | rfl | rfl | rfl : code = 0 ∨ code = 1 ∨ code = 2 ∨ code = 3 ∨ code = 4 ∨ code = 5 ∨ code = 6 ∨ code = 7 := by omega
  · have hz1 : ¬ 9223372036854775807 < 3 + (Pu.numB value).size := by omega
    have hz2 : ¬ 9223372036854775807 < 3 + (Pu.numB value).size + 1 := by omega
    have hz3 : ¬ 9223372036854775807 < 3 + (Pu.numB value).size + 1 + text.size := by omega
    rcases ht : (text.toList == []) with _ | _
    · go_enter Tryd.func16, Tryd.ntmps16
      go_wp2_with fail
      rw [hw0.out]
      have K0 : Below w0.heap.size w0 w0 := Below.refl _ _
      go_region_held3 (fun w' => w'.cell? ⟨w.heap.size, 1, none⟩ = some (.int .i64 value) ∧ w'.cell? ⟨w.heap.size, 2, none⟩ = some (.string text)) (go_keep)
        (first
          | (go_at_call 9;
              refine (sFormatNumber_c value _ hrg.1 hrg.2).mono ?_;
              rintro e WX ⟨rfl, bX⟩;
              have KWX : Below w0.heap.size w0 WX := below_then (by first | exact K0 | exact K0.drew) bX;
              have KX : ∀ k : Nat, WX.cell? ⟨w.heap.size, k, none⟩ = _ := fun k => KWX.cell hL0))
      go_wp2
      go_ret
      exact ⟨ret_str (by rw [Pu.replyT]; simp only [ht]; rw [← ByteArray.append_assoc]; rfl), below_then HB0.out KWX⟩
    · go_enter Tryd.func16, Tryd.ntmps16
      go_wp2_with fail
      rw [hw0.out]
      refine (sFormatNumber_c value _ hrg.1 hrg.2).mono ?_; rintro e w1 ⟨rfl, b1⟩
      go_wp2
      go_ret
      exact ⟨ret_str (by rw [Pu.replyT]; simp only [ht]; rfl), below_then HB0.out b1⟩
  · have f1 := Pu.faceT_size want
    have f2 := Pu.faceT_size had
    have hz1 : ¬ 9223372036854775807 < 7 + (Pu.faceT want).size := by omega
    have hz2 : ¬ 9223372036854775807 < 7 + (Pu.faceT want).size + 4 := by omega
    have hz3 : ¬ 9223372036854775807 < 7 + (Pu.faceT want).size + 4 + (Pu.faceT had).size := by omega
    go_enter Tryd.func16, Tryd.ntmps16
    go_wp2_with fail
    rw [hw0.out]
    have K0 : Below w0.heap.size w0 w0 := Below.refl _ _
    go_region_held3 (fun w' => w'.cell? ⟨w.heap.size, 3, none⟩ = some (.int .i64 want) ∧ w'.cell? ⟨w.heap.size, 4, none⟩ = some (.int .i64 had)) (go_keep)
      (first
        | (go_at_call 32;
            refine (sFormatFace_c _ _).mono ?_;
            rintro e WX ⟨rfl, bX⟩;
            have KWX : Below w0.heap.size w0 WX := below_then (by first | exact KWX | exact K0 | exact K0.drew) bX;
            have KX : ∀ k : Nat, WX.cell? ⟨w.heap.size, k, none⟩ = _ := fun k => KWX.cell hL0))
    all_goals
      go_wp2
      go_ret
      exact ⟨ret_str (by rw [Pu.replyT]; rfl), below_then HB0.out KWX⟩
  all_goals
    go_enter Tryd.func16, Tryd.ntmps16
    go_wp2
    go_ret
    exact ⟨ret_str rfl, below_then (by rw [hw0.out]; exact HB0.out) (below_alloc (Below.refl _ _) _)⟩
theorem szReply_c (x : Pu.ReplyD) (w : World) (hw : ReplyD.wf x) :
    Calls Tryd.prog 15 #[replyV x, .int .i64 1048576] w fun e w' => (e = .returned (.int .i64 (-1)) ∨ ∃ n : Int, 0 ≤ n ∧ x.text.size ≤ 1048576 ∧ e = .returned (.int .i64 n)) ∧ Below w.heap.size w w' := by
  have h4 := hw.2.2.1
  unfold maxLen at h4
  clear hw
  unfold replyV
  go_enter Tryd.func15, Tryd.ntmps15
  go_wp2_with fail
  all_goals go_ret
  all_goals first
    | exact ⟨.inl rfl, below_alloc (Below.refl _ _) _⟩
    | exact ⟨.inr ⟨_, by omega, by omega, rfl⟩, below_alloc (Below.refl _ _) _⟩
theorem toReply_c (x : Pu.ReplyD) (w : World) :
    Calls Tryd.prog 17 #[replyV x] w fun e w' => e = .returned (replyV x) ∧ Below w.heap.size w w' := by
  unfold replyV
  go_enter Tryd.func17, Tryd.ntmps17
  go_wp2
  exact bodyPost_ret (v := .agg #[.int .i64 x.code, .int .i64 x.value, .string x.text, .int .i64 x.want, .int .i64 x.had]) (by simp [results, Tryd.results17, go_sem]) rfl ⟨rfl, below_alloc (below_alloc (below_alloc (Below.refl _ _) _) _) _⟩
end Go.Proofs.YtfmjcmhofjibmaaDoor
