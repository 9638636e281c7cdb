/- Contracts: drawn parts. Written by wip/tools/drawgen5.py. -/
import Derived.Test.YtnabpefjcgehiaaDrawSt
import Derived.Test.YtnabpefjcgehiaaInvG
namespace Go.Proofs.Ytnabpefjcgehiaa
open Go.ChangeShapes Go.WideShapes Go.ChangeAt Go.RowKit
set_option maxRecDepth 100000
set_option linter.unusedVariables false
set_option maxHeartbeats 4000000 in
theorem l4Draw_c (g : Nat) (l : List UInt8) (w : World) (hc : Cur w g l) (hgs : g < w.heap.size) :
    Calls Try.prog 42 #[.pointer (some ⟨g, 0, none⟩)] w fun e w' => ∃ (p : Pu.PartD) (s t : Value), e = .returned (partV p s t) ∧ OwnL w' w.heap.size 74 2 cellEn s p.core.cells ∧ OwnL w' w.heap.size 57 2 layerEn t p.layers ∧ DrawnP p 3 ∧ Cur w' g l ∧ w.grownBy w' (some g) := by
  go_enter Try.func42, Try.ntmps42
  obtain ⟨w0, hw0⟩ : ∃ w0, Hid (w.alloc (.cells #[.string ⟨#[]⟩, .bool false, .bool false, .slice none 0 0, .int .i64 0, .slice none 0 0] 31 : Obj) = w0) := ⟨_, rfl⟩
  have hc0 : Cur w0 g l := by rw [← hw0.out]; exact hc.alloc hgs _
  have hg0 : w.grownBy w0 (some g) := by rw [← hw0.out]; exact grown_alloc (grown_refl _ _) _
  have hgs0 : g < w0.heap.size := Nat.lt_of_lt_of_le hgs hg0.size
  have Y0 := hide (show w0.heap[w.heap.size]? = some partNil by rw [← hw0.out]; exact heap_new rfl)
  have hng : some w.heap.size ≠ some g := by intro h; cases h; omega
  go_wp2_with fail
  rw [hw0.out]
  refine (l3Draw_c _ _ _ hc0 hgs0).mono ?_; rintro e w1 ⟨⟨pk, po, pb, pl, pn⟩, s, rfl, o1, hK, hpl5, hc1, hg1⟩
  obtain ⟨A, c, rfl⟩ := o1.shape
  unfold coreV
  dsimp only at o1 hpl5 ⊢
  have HK := hide hK
  clear hK
  have hgs1 : g < w1.heap.size := Nat.lt_of_lt_of_le hgs0 hg1.size
  obtain ⟨B, hB⟩ : ∃ B, Hid (w1.heap.size = B) := ⟨_, rfl⟩
  have Y1 := row_keep hg1 Y0.out hng
  have hBW : w.heap.size < B := by rw [← hB.out]; exact (Array.getElem?_eq_some_iff.1 Y1).1
  obtain ⟨w2, hw2⟩ : ∃ w2, Hid (w1.alloc (.cells #[.string pk, .bool po, .bool pb, .slice A pl.length c, .int .i64 pn, .slice none 0 0] 31 : Obj) = w2) := ⟨_, rfl⟩
  have b2 : Below w1.heap.size w1 w2 := by rw [← hw2.out]; exact below_alloc (Below.refl _ _) _
  have hS2 : Hid (PartSt w g B l (⟨⟨pk, po, pb, pl, pn⟩, []⟩ : Pu.PartD) (.slice A pl.length c) (.slice none 0 0) w2) := ⟨by rw [← hw2.out]; exact heap_new hB.out.symm, row_on b2 Y1, OwnL.below (o1.mono hg0.size) b2 (Nat.le_refl _), OwnL.nil _ _ _ _ _, hc1.kept b2 hgs1, grown_below (grown_trans hg0 hg1) b2⟩
  clear hc0 hg0 hgs0 hc1 hg1 Y0 Y1 o1 b2
  go_wp2_with fail
  rw [hw2.out]
  try simp only [hB.out]
  refine (l1Below_c _ _ _ _ hS2.out.cur (by omega)).mono ?_; rintro e w3 ⟨n, rfl, hn0, hn1, hc3, hgr3⟩
  have hn4 := hn1 (by omega)
  obtain ⟨n, rfl⟩ := Int.eq_ofNat_of_zero_le hn0
  have hS3 := hide (hS2.out.draw hgs hBW hc3 hgr3)
  clear hS2 hc3 hgr3 hn0 hn1
  go_wp2_with fail
  go_loopw [4] (fun i wr => ∃ (k : Nat) (p : Pu.PartD) (s t : Value), k ≤ 3 ∧ i = .int .i64 k ∧ Hid (DrawnP p (3 - k)) ∧ Hid (PartSt w g B l p s t wr)) (fun i _ => (intOf i).toNat)
  case atStart => exact ⟨n, _, _, _, by omega, rfl, (⟨HK.out, Nat.zero_le _⟩ : DrawnP _ _), hS3⟩
  case round =>
    obtain ⟨k, ⟨⟨pk, po, pb, pl, pn⟩, py⟩, s, t, hk, rfl, hD, hS⟩ := hrel
    have hpl : pl.length ≤ 16777216 := by have h9 : pl.length ≤ 6 := hD.out.1.2.2.1; omega
    have hpy3 : py.length ≤ 3 - k := hD.out.2
    have hpy : py.length ≤ 16777216 := by omega
    have hzB : B < wr.heap.size := hS.out.ltB
    have hzg : g < wr.heap.size := hS.out.lt hgs
    have hBg : some B ≠ some g := by intro h; cases h; omega
    have Xwr := hide (show wr.heap[B]? = some (.cells #[.string pk, .bool po, .bool pb, s, .int .i64 pn, t] 31 (0, 0) : Obj) from hS.out.row)
    obtain ⟨_, _, _, _, _, _, _⟩ := six_cells Xwr.out
    by_cases hlt : (0 : Int) < (k : Int)
    · obtain ⟨F, hF⟩ : ∃ F, Hid (Pu.faceAt (⟨⟨pk, po, pb, pl, pn⟩, py⟩ : Pu.PartD) py.length = F) := ⟨_, rfl⟩
      go_upto_region 5 with fail
      obtain ⟨G, hGdef⟩ : ∃ G : Nat → Value → World → Prop, G = (fun j v wx => match j with | 0 => (v = .agg #[.string pk, .bool po, .bool pb, s, .int .i64 pn, t]) | 1 => (v = .pointer (some ⟨g, 0, none⟩)) | 2 => (v = .agg #[.string pk, .bool po, .bool pb, s, .int .i64 pn, t]) | 3 => (v = .int .i64 F) | 4 => (∃ n9 : ByteArray, v = .string n9) | 5 => (∃ (q : Pu.PartD) (r : Pu.ReplyD) (s9 t9 : Value), v = .tuple #[.agg #[.string q.core.kind, .bool q.core.on, .bool q.core.broken, s9, .int .i64 q.core.count, t9], .agg #[.int .i64 r.code, .int .i64 r.value, .string r.text, .int .i64 r.want, .int .i64 r.had]] ∧ DrawnP q (3 - k + 1) ∧ OwnL wx wr.heap.size 74 2 cellEn s9 q.core.cells ∧ OwnL wx wr.heap.size 57 2 layerEn t9 q.layers) | 6 => (∃ (q : Pu.PartD) (r : Pu.ReplyD) (s9 t9 : Value), v = .tuple #[.agg #[.string q.core.kind, .bool q.core.on, .bool q.core.broken, s9, .int .i64 q.core.count, t9], .agg #[.int .i64 r.code, .int .i64 r.value, .string r.text, .int .i64 r.want, .int .i64 r.had]] ∧ DrawnP q (3 - k + 1) ∧ OwnL wx wr.heap.size 74 2 cellEn s9 q.core.cells ∧ OwnL wx wr.heap.size 57 2 layerEn t9 q.layers) | 7 => (∃ (q : Pu.PartD) (s9 t9 : Value), v = .agg #[.string q.core.kind, .bool q.core.on, .bool q.core.broken, s9, .int .i64 q.core.count, t9] ∧ DrawnP q (3 - k + 1) ∧ OwnL wx wr.heap.size 74 2 cellEn s9 q.core.cells ∧ OwnL wx wr.heap.size 57 2 layerEn t9 q.layers) | 8 => (∃ r : Pu.ReplyD, v = .agg #[.int .i64 r.code, .int .i64 r.value, .string r.text, .int .i64 r.want, .int .i64 r.had]) | 9 => (BlkG wr.heap.size 31 6 v wx) | 10 => (BlkG wr.heap.size 33 5 v wx) | 11 => (FinG wr.heap.size 31 (fun cs wx => ∃ (q : Pu.PartD) (s9 t9 : Value), cs = #[.string q.core.kind, .bool q.core.on, .bool q.core.broken, s9, .int .i64 q.core.count, t9] ∧ DrawnP q (3 - k + 1) ∧ OwnL wx wr.heap.size 74 2 cellEn s9 q.core.cells ∧ OwnL wx wr.heap.size 57 2 layerEn t9 q.layers) v wx) | 12 => (FinG wr.heap.size 33 (fun cs wx => ∃ r : Pu.ReplyD, cs = #[.int .i64 r.code, .int .i64 r.value, .string r.text, .int .i64 r.want, .int .i64 r.had]) v wx) | _ => True) := ⟨_, rfl⟩
      have G0 : ∀ v wx, G 0 v wx = (v = .agg #[.string pk, .bool po, .bool pb, s, .int .i64 pn, t]) := fun v wx => (congrFun (congrFun (congrFun hGdef 0) v) wx).trans rfl
      have G1 : ∀ v wx, G 1 v wx = (v = .pointer (some ⟨g, 0, none⟩)) := fun v wx => (congrFun (congrFun (congrFun hGdef 1) v) wx).trans rfl
      have G2 : ∀ v wx, G 2 v wx = (v = .agg #[.string pk, .bool po, .bool pb, s, .int .i64 pn, t]) := fun v wx => (congrFun (congrFun (congrFun hGdef 2) v) wx).trans rfl
      have G3 : ∀ v wx, G 3 v wx = (v = .int .i64 F) := fun v wx => (congrFun (congrFun (congrFun hGdef 3) v) wx).trans rfl
      have G4 : ∀ v wx, G 4 v wx = (∃ n9 : ByteArray, v = .string n9) := fun v wx => (congrFun (congrFun (congrFun hGdef 4) v) wx).trans rfl
      have G5 : ∀ v wx, G 5 v wx = (∃ (q : Pu.PartD) (r : Pu.ReplyD) (s9 t9 : Value), v = .tuple #[.agg #[.string q.core.kind, .bool q.core.on, .bool q.core.broken, s9, .int .i64 q.core.count, t9], .agg #[.int .i64 r.code, .int .i64 r.value, .string r.text, .int .i64 r.want, .int .i64 r.had]] ∧ DrawnP q (3 - k + 1) ∧ OwnL wx wr.heap.size 74 2 cellEn s9 q.core.cells ∧ OwnL wx wr.heap.size 57 2 layerEn t9 q.layers) := fun v wx => (congrFun (congrFun (congrFun hGdef 5) v) wx).trans rfl
      have G6 : ∀ v wx, G 6 v wx = (∃ (q : Pu.PartD) (r : Pu.ReplyD) (s9 t9 : Value), v = .tuple #[.agg #[.string q.core.kind, .bool q.core.on, .bool q.core.broken, s9, .int .i64 q.core.count, t9], .agg #[.int .i64 r.code, .int .i64 r.value, .string r.text, .int .i64 r.want, .int .i64 r.had]] ∧ DrawnP q (3 - k + 1) ∧ OwnL wx wr.heap.size 74 2 cellEn s9 q.core.cells ∧ OwnL wx wr.heap.size 57 2 layerEn t9 q.layers) := fun v wx => (congrFun (congrFun (congrFun hGdef 6) v) wx).trans rfl
      have G7 : ∀ v wx, G 7 v wx = (∃ (q : Pu.PartD) (s9 t9 : Value), v = .agg #[.string q.core.kind, .bool q.core.on, .bool q.core.broken, s9, .int .i64 q.core.count, t9] ∧ DrawnP q (3 - k + 1) ∧ OwnL wx wr.heap.size 74 2 cellEn s9 q.core.cells ∧ OwnL wx wr.heap.size 57 2 layerEn t9 q.layers) := fun v wx => (congrFun (congrFun (congrFun hGdef 7) v) wx).trans rfl
      have G8 : ∀ v wx, G 8 v wx = (∃ r : Pu.ReplyD, v = .agg #[.int .i64 r.code, .int .i64 r.value, .string r.text, .int .i64 r.want, .int .i64 r.had]) := fun v wx => (congrFun (congrFun (congrFun hGdef 8) v) wx).trans rfl
      have G9 : ∀ v wx, G 9 v wx = (BlkG wr.heap.size 31 6 v wx) := fun v wx => (congrFun (congrFun (congrFun hGdef 9) v) wx).trans rfl
      have G10 : ∀ v wx, G 10 v wx = (BlkG wr.heap.size 33 5 v wx) := fun v wx => (congrFun (congrFun (congrFun hGdef 10) v) wx).trans rfl
      have G11 : ∀ v wx, G 11 v wx = (FinG wr.heap.size 31 (fun cs wx => ∃ (q : Pu.PartD) (s9 t9 : Value), cs = #[.string q.core.kind, .bool q.core.on, .bool q.core.broken, s9, .int .i64 q.core.count, t9] ∧ DrawnP q (3 - k + 1) ∧ OwnL wx wr.heap.size 74 2 cellEn s9 q.core.cells ∧ OwnL wx wr.heap.size 57 2 layerEn t9 q.layers) v wx) := fun v wx => (congrFun (congrFun (congrFun hGdef 11) v) wx).trans rfl
      have G12 : ∀ v wx, G 12 v wx = (FinG wr.heap.size 33 (fun cs wx => ∃ r : Pu.ReplyD, cs = #[.int .i64 r.code, .int .i64 r.value, .string r.text, .int .i64 r.want, .int .i64 r.had]) v wx) := fun v wx => (congrFun (congrFun (congrFun hGdef 12) v) wx).trans rfl
      have Gn : ∀ j v wx, G (j + 13) v wx = True := fun j v wx => (congrFun (congrFun (congrFun hGdef _) v) wx).trans rfl
      clear hGdef
      have firm0 : ∀ j v, Firm [] (G j v) := by
        intro j v
        match j with
        | 0 => rw [show G 0 v = (fun wx => v = .agg #[.string pk, .bool po, .bool pb, s, .int .i64 pn, t]) from funext (G0 v)]; exact firm_const _
        | 1 => rw [show G 1 v = (fun wx => v = .pointer (some ⟨g, 0, none⟩)) from funext (G1 v)]; exact firm_const _
        | 2 => rw [show G 2 v = (fun wx => v = .agg #[.string pk, .bool po, .bool pb, s, .int .i64 pn, t]) from funext (G2 v)]; exact firm_const _
        | 3 => rw [show G 3 v = (fun wx => v = .int .i64 F) from funext (G3 v)]; exact firm_const _
        | 4 => rw [show G 4 v = (fun wx => ∃ n9 : ByteArray, v = .string n9) from funext (G4 v)]; exact firm_const _
        | 5 => rw [show G 5 v = (fun wx => ∃ (q : Pu.PartD) (r : Pu.ReplyD) (s9 t9 : Value), v = .tuple #[.agg #[.string q.core.kind, .bool q.core.on, .bool q.core.broken, s9, .int .i64 q.core.count, t9], .agg #[.int .i64 r.code, .int .i64 r.value, .string r.text, .int .i64 r.want, .int .i64 r.had]] ∧ DrawnP q (3 - k + 1) ∧ OwnL wx wr.heap.size 74 2 cellEn s9 q.core.cells ∧ OwnL wx wr.heap.size 57 2 layerEn t9 q.layers) from funext (G5 v)]; exact firm_ex fun _ => firm_ex fun _ => firm_ex fun _ => firm_ex fun _ => firm_and (firm_const _) (firm_and (firm_const _) (firm_and (firm_own (by decide)) (firm_own (by decide))))
        | 6 => rw [show G 6 v = (fun wx => ∃ (q : Pu.PartD) (r : Pu.ReplyD) (s9 t9 : Value), v = .tuple #[.agg #[.string q.core.kind, .bool q.core.on, .bool q.core.broken, s9, .int .i64 q.core.count, t9], .agg #[.int .i64 r.code, .int .i64 r.value, .string r.text, .int .i64 r.want, .int .i64 r.had]] ∧ DrawnP q (3 - k + 1) ∧ OwnL wx wr.heap.size 74 2 cellEn s9 q.core.cells ∧ OwnL wx wr.heap.size 57 2 layerEn t9 q.layers) from funext (G6 v)]; exact firm_ex fun _ => firm_ex fun _ => firm_ex fun _ => firm_ex fun _ => firm_and (firm_const _) (firm_and (firm_const _) (firm_and (firm_own (by decide)) (firm_own (by decide))))
        | 7 => rw [show G 7 v = (fun wx => ∃ (q : Pu.PartD) (s9 t9 : Value), v = .agg #[.string q.core.kind, .bool q.core.on, .bool q.core.broken, s9, .int .i64 q.core.count, t9] ∧ DrawnP q (3 - k + 1) ∧ OwnL wx wr.heap.size 74 2 cellEn s9 q.core.cells ∧ OwnL wx wr.heap.size 57 2 layerEn t9 q.layers) from funext (G7 v)]; exact firm_ex fun _ => firm_ex fun _ => firm_ex fun _ => firm_and (firm_const _) (firm_and (firm_const _) (firm_and (firm_own (by decide)) (firm_own (by decide))))
        | 8 => rw [show G 8 v = (fun wx => ∃ r : Pu.ReplyD, v = .agg #[.int .i64 r.code, .int .i64 r.value, .string r.text, .int .i64 r.want, .int .i64 r.had]) from funext (G8 v)]; exact firm_const _
        | 9 => rw [show G 9 v = (fun wx => BlkG wr.heap.size 31 6 v wx) from funext (G9 v)]; exact firm_blk
        | 10 => rw [show G 10 v = (fun wx => BlkG wr.heap.size 33 5 v wx) from funext (G10 v)]; exact firm_blk
        | 11 => rw [show G 11 v = (fun wx => FinG wr.heap.size 31 (fun cs wx => ∃ (q : Pu.PartD) (s9 t9 : Value), cs = #[.string q.core.kind, .bool q.core.on, .bool q.core.broken, s9, .int .i64 q.core.count, t9] ∧ DrawnP q (3 - k + 1) ∧ OwnL wx wr.heap.size 74 2 cellEn s9 q.core.cells ∧ OwnL wx wr.heap.size 57 2 layerEn t9 q.layers) v wx) from funext (G11 v)]; exact firm_fin (by decide) (fun _ => firm_ex fun _ => firm_ex fun _ => firm_ex fun _ => firm_and (firm_const _) (firm_and (firm_const _) (firm_and (firm_own (by decide)) (firm_own (by decide)))))
        | 12 => rw [show G 12 v = (fun wx => FinG wr.heap.size 33 (fun cs wx => ∃ r : Pu.ReplyD, cs = #[.int .i64 r.code, .int .i64 r.value, .string r.text, .int .i64 r.want, .int .i64 r.had]) v wx) from funext (G12 v)]; exact firm_fin (by decide) (fun _ => firm_const _)
        | j + 13 => rw [show G (j + 13) v = (fun wx => True) from funext (Gn j v)]; exact firm_const _
      have firm1 : ∀ j v, Firm [69] (G j v) := by
        intro j v
        match j with
        | 0 => rw [show G 0 v = (fun wx => v = .agg #[.string pk, .bool po, .bool pb, s, .int .i64 pn, t]) from funext (G0 v)]; exact firm_const _
        | 1 => rw [show G 1 v = (fun wx => v = .pointer (some ⟨g, 0, none⟩)) from funext (G1 v)]; exact firm_const _
        | 2 => rw [show G 2 v = (fun wx => v = .agg #[.string pk, .bool po, .bool pb, s, .int .i64 pn, t]) from funext (G2 v)]; exact firm_const _
        | 3 => rw [show G 3 v = (fun wx => v = .int .i64 F) from funext (G3 v)]; exact firm_const _
        | 4 => rw [show G 4 v = (fun wx => ∃ n9 : ByteArray, v = .string n9) from funext (G4 v)]; exact firm_const _
        | 5 => rw [show G 5 v = (fun wx => ∃ (q : Pu.PartD) (r : Pu.ReplyD) (s9 t9 : Value), v = .tuple #[.agg #[.string q.core.kind, .bool q.core.on, .bool q.core.broken, s9, .int .i64 q.core.count, t9], .agg #[.int .i64 r.code, .int .i64 r.value, .string r.text, .int .i64 r.want, .int .i64 r.had]] ∧ DrawnP q (3 - k + 1) ∧ OwnL wx wr.heap.size 74 2 cellEn s9 q.core.cells ∧ OwnL wx wr.heap.size 57 2 layerEn t9 q.layers) from funext (G5 v)]; exact firm_ex fun _ => firm_ex fun _ => firm_ex fun _ => firm_ex fun _ => firm_and (firm_const _) (firm_and (firm_const _) (firm_and (firm_own (by decide)) (firm_own (by decide))))
        | 6 => rw [show G 6 v = (fun wx => ∃ (q : Pu.PartD) (r : Pu.ReplyD) (s9 t9 : Value), v = .tuple #[.agg #[.string q.core.kind, .bool q.core.on, .bool q.core.broken, s9, .int .i64 q.core.count, t9], .agg #[.int .i64 r.code, .int .i64 r.value, .string r.text, .int .i64 r.want, .int .i64 r.had]] ∧ DrawnP q (3 - k + 1) ∧ OwnL wx wr.heap.size 74 2 cellEn s9 q.core.cells ∧ OwnL wx wr.heap.size 57 2 layerEn t9 q.layers) from funext (G6 v)]; exact firm_ex fun _ => firm_ex fun _ => firm_ex fun _ => firm_ex fun _ => firm_and (firm_const _) (firm_and (firm_const _) (firm_and (firm_own (by decide)) (firm_own (by decide))))
        | 7 => rw [show G 7 v = (fun wx => ∃ (q : Pu.PartD) (s9 t9 : Value), v = .agg #[.string q.core.kind, .bool q.core.on, .bool q.core.broken, s9, .int .i64 q.core.count, t9] ∧ DrawnP q (3 - k + 1) ∧ OwnL wx wr.heap.size 74 2 cellEn s9 q.core.cells ∧ OwnL wx wr.heap.size 57 2 layerEn t9 q.layers) from funext (G7 v)]; exact firm_ex fun _ => firm_ex fun _ => firm_ex fun _ => firm_and (firm_const _) (firm_and (firm_const _) (firm_and (firm_own (by decide)) (firm_own (by decide))))
        | 8 => rw [show G 8 v = (fun wx => ∃ r : Pu.ReplyD, v = .agg #[.int .i64 r.code, .int .i64 r.value, .string r.text, .int .i64 r.want, .int .i64 r.had]) from funext (G8 v)]; exact firm_const _
        | 9 => rw [show G 9 v = (fun wx => BlkG wr.heap.size 31 6 v wx) from funext (G9 v)]; exact firm_blk
        | 10 => rw [show G 10 v = (fun wx => BlkG wr.heap.size 33 5 v wx) from funext (G10 v)]; exact firm_blk
        | 11 => rw [show G 11 v = (fun wx => FinG wr.heap.size 31 (fun cs wx => ∃ (q : Pu.PartD) (s9 t9 : Value), cs = #[.string q.core.kind, .bool q.core.on, .bool q.core.broken, s9, .int .i64 q.core.count, t9] ∧ DrawnP q (3 - k + 1) ∧ OwnL wx wr.heap.size 74 2 cellEn s9 q.core.cells ∧ OwnL wx wr.heap.size 57 2 layerEn t9 q.layers) v wx) from funext (G11 v)]; exact firm_fin (by decide) (fun _ => firm_ex fun _ => firm_ex fun _ => firm_ex fun _ => firm_and (firm_const _) (firm_and (firm_const _) (firm_and (firm_own (by decide)) (firm_own (by decide)))))
        | 12 => rw [show G 12 v = (fun wx => FinG wr.heap.size 33 (fun cs wx => ∃ r : Pu.ReplyD, cs = #[.int .i64 r.code, .int .i64 r.value, .string r.text, .int .i64 r.want, .int .i64 r.had]) v wx) from funext (G12 v)]; exact firm_fin (by decide) (fun _ => firm_const _)
        | j + 13 => rw [show G (j + 13) v = (fun wx => True) from funext (Gn j v)]; exact firm_const _
      have firm2 : ∀ j v, j ≠ 11 → Firm [31] (G j v) := by
        intro j v
        match j with
        | 0 => intro h0; rw [show G 0 v = (fun wx => v = .agg #[.string pk, .bool po, .bool pb, s, .int .i64 pn, t]) from funext (G0 v)]; exact firm_const _
        | 1 => intro h0; rw [show G 1 v = (fun wx => v = .pointer (some ⟨g, 0, none⟩)) from funext (G1 v)]; exact firm_const _
        | 2 => intro h0; rw [show G 2 v = (fun wx => v = .agg #[.string pk, .bool po, .bool pb, s, .int .i64 pn, t]) from funext (G2 v)]; exact firm_const _
        | 3 => intro h0; rw [show G 3 v = (fun wx => v = .int .i64 F) from funext (G3 v)]; exact firm_const _
        | 4 => intro h0; rw [show G 4 v = (fun wx => ∃ n9 : ByteArray, v = .string n9) from funext (G4 v)]; exact firm_const _
        | 5 => intro h0; rw [show G 5 v = (fun wx => ∃ (q : Pu.PartD) (r : Pu.ReplyD) (s9 t9 : Value), v = .tuple #[.agg #[.string q.core.kind, .bool q.core.on, .bool q.core.broken, s9, .int .i64 q.core.count, t9], .agg #[.int .i64 r.code, .int .i64 r.value, .string r.text, .int .i64 r.want, .int .i64 r.had]] ∧ DrawnP q (3 - k + 1) ∧ OwnL wx wr.heap.size 74 2 cellEn s9 q.core.cells ∧ OwnL wx wr.heap.size 57 2 layerEn t9 q.layers) from funext (G5 v)]; exact firm_ex fun _ => firm_ex fun _ => firm_ex fun _ => firm_ex fun _ => firm_and (firm_const _) (firm_and (firm_const _) (firm_and (firm_own (by decide)) (firm_own (by decide))))
        | 6 => intro h0; rw [show G 6 v = (fun wx => ∃ (q : Pu.PartD) (r : Pu.ReplyD) (s9 t9 : Value), v = .tuple #[.agg #[.string q.core.kind, .bool q.core.on, .bool q.core.broken, s9, .int .i64 q.core.count, t9], .agg #[.int .i64 r.code, .int .i64 r.value, .string r.text, .int .i64 r.want, .int .i64 r.had]] ∧ DrawnP q (3 - k + 1) ∧ OwnL wx wr.heap.size 74 2 cellEn s9 q.core.cells ∧ OwnL wx wr.heap.size 57 2 layerEn t9 q.layers) from funext (G6 v)]; exact firm_ex fun _ => firm_ex fun _ => firm_ex fun _ => firm_ex fun _ => firm_and (firm_const _) (firm_and (firm_const _) (firm_and (firm_own (by decide)) (firm_own (by decide))))
        | 7 => intro h0; rw [show G 7 v = (fun wx => ∃ (q : Pu.PartD) (s9 t9 : Value), v = .agg #[.string q.core.kind, .bool q.core.on, .bool q.core.broken, s9, .int .i64 q.core.count, t9] ∧ DrawnP q (3 - k + 1) ∧ OwnL wx wr.heap.size 74 2 cellEn s9 q.core.cells ∧ OwnL wx wr.heap.size 57 2 layerEn t9 q.layers) from funext (G7 v)]; exact firm_ex fun _ => firm_ex fun _ => firm_ex fun _ => firm_and (firm_const _) (firm_and (firm_const _) (firm_and (firm_own (by decide)) (firm_own (by decide))))
        | 8 => intro h0; rw [show G 8 v = (fun wx => ∃ r : Pu.ReplyD, v = .agg #[.int .i64 r.code, .int .i64 r.value, .string r.text, .int .i64 r.want, .int .i64 r.had]) from funext (G8 v)]; exact firm_const _
        | 9 => intro h0; rw [show G 9 v = (fun wx => BlkG wr.heap.size 31 6 v wx) from funext (G9 v)]; exact firm_blk
        | 10 => intro h0; rw [show G 10 v = (fun wx => BlkG wr.heap.size 33 5 v wx) from funext (G10 v)]; exact firm_blk
        | 11 => intro h0; exact absurd rfl h0
        | 12 => intro h0; rw [show G 12 v = (fun wx => FinG wr.heap.size 33 (fun cs wx => ∃ r : Pu.ReplyD, cs = #[.int .i64 r.code, .int .i64 r.value, .string r.text, .int .i64 r.want, .int .i64 r.had]) v wx) from funext (G12 v)]; exact firm_fin (by decide) (fun _ => firm_const _)
        | j + 13 => intro h0; rw [show G (j + 13) v = (fun wx => True) from funext (Gn j v)]; exact firm_const _
      have firm3 : ∀ j v, j ≠ 12 → Firm [33] (G j v) := by
        intro j v
        match j with
        | 0 => intro h0; rw [show G 0 v = (fun wx => v = .agg #[.string pk, .bool po, .bool pb, s, .int .i64 pn, t]) from funext (G0 v)]; exact firm_const _
        | 1 => intro h0; rw [show G 1 v = (fun wx => v = .pointer (some ⟨g, 0, none⟩)) from funext (G1 v)]; exact firm_const _
        | 2 => intro h0; rw [show G 2 v = (fun wx => v = .agg #[.string pk, .bool po, .bool pb, s, .int .i64 pn, t]) from funext (G2 v)]; exact firm_const _
        | 3 => intro h0; rw [show G 3 v = (fun wx => v = .int .i64 F) from funext (G3 v)]; exact firm_const _
        | 4 => intro h0; rw [show G 4 v = (fun wx => ∃ n9 : ByteArray, v = .string n9) from funext (G4 v)]; exact firm_const _
        | 5 => intro h0; rw [show G 5 v = (fun wx => ∃ (q : Pu.PartD) (r : Pu.ReplyD) (s9 t9 : Value), v = .tuple #[.agg #[.string q.core.kind, .bool q.core.on, .bool q.core.broken, s9, .int .i64 q.core.count, t9], .agg #[.int .i64 r.code, .int .i64 r.value, .string r.text, .int .i64 r.want, .int .i64 r.had]] ∧ DrawnP q (3 - k + 1) ∧ OwnL wx wr.heap.size 74 2 cellEn s9 q.core.cells ∧ OwnL wx wr.heap.size 57 2 layerEn t9 q.layers) from funext (G5 v)]; exact firm_ex fun _ => firm_ex fun _ => firm_ex fun _ => firm_ex fun _ => firm_and (firm_const _) (firm_and (firm_const _) (firm_and (firm_own (by decide)) (firm_own (by decide))))
        | 6 => intro h0; rw [show G 6 v = (fun wx => ∃ (q : Pu.PartD) (r : Pu.ReplyD) (s9 t9 : Value), v = .tuple #[.agg #[.string q.core.kind, .bool q.core.on, .bool q.core.broken, s9, .int .i64 q.core.count, t9], .agg #[.int .i64 r.code, .int .i64 r.value, .string r.text, .int .i64 r.want, .int .i64 r.had]] ∧ DrawnP q (3 - k + 1) ∧ OwnL wx wr.heap.size 74 2 cellEn s9 q.core.cells ∧ OwnL wx wr.heap.size 57 2 layerEn t9 q.layers) from funext (G6 v)]; exact firm_ex fun _ => firm_ex fun _ => firm_ex fun _ => firm_ex fun _ => firm_and (firm_const _) (firm_and (firm_const _) (firm_and (firm_own (by decide)) (firm_own (by decide))))
        | 7 => intro h0; rw [show G 7 v = (fun wx => ∃ (q : Pu.PartD) (s9 t9 : Value), v = .agg #[.string q.core.kind, .bool q.core.on, .bool q.core.broken, s9, .int .i64 q.core.count, t9] ∧ DrawnP q (3 - k + 1) ∧ OwnL wx wr.heap.size 74 2 cellEn s9 q.core.cells ∧ OwnL wx wr.heap.size 57 2 layerEn t9 q.layers) from funext (G7 v)]; exact firm_ex fun _ => firm_ex fun _ => firm_ex fun _ => firm_and (firm_const _) (firm_and (firm_const _) (firm_and (firm_own (by decide)) (firm_own (by decide))))
        | 8 => intro h0; rw [show G 8 v = (fun wx => ∃ r : Pu.ReplyD, v = .agg #[.int .i64 r.code, .int .i64 r.value, .string r.text, .int .i64 r.want, .int .i64 r.had]) from funext (G8 v)]; exact firm_const _
        | 9 => intro h0; rw [show G 9 v = (fun wx => BlkG wr.heap.size 31 6 v wx) from funext (G9 v)]; exact firm_blk
        | 10 => intro h0; rw [show G 10 v = (fun wx => BlkG wr.heap.size 33 5 v wx) from funext (G10 v)]; exact firm_blk
        | 11 => intro h0; rw [show G 11 v = (fun wx => FinG wr.heap.size 31 (fun cs wx => ∃ (q : Pu.PartD) (s9 t9 : Value), cs = #[.string q.core.kind, .bool q.core.on, .bool q.core.broken, s9, .int .i64 q.core.count, t9] ∧ DrawnP q (3 - k + 1) ∧ OwnL wx wr.heap.size 74 2 cellEn s9 q.core.cells ∧ OwnL wx wr.heap.size 57 2 layerEn t9 q.layers) v wx) from funext (G11 v)]; exact firm_fin (by decide) (fun _ => firm_ex fun _ => firm_ex fun _ => firm_ex fun _ => firm_and (firm_const _) (firm_and (firm_const _) (firm_and (firm_own (by decide)) (firm_own (by decide)))))
        | 12 => intro h0; exact absurd rfl h0
        | j + 13 => intro h0; rw [show G (j + 13) v = (fun wx => True) from funext (Gn j v)]; exact firm_const _
      refine wp_region_absG (CurI wr g l) [5, 6, 18, 19, 20, 21, 22, 23, 24, 25, 26] (fun j => match j with | 0 => 19 | 1 => 20 | 2 => 21 | 3 => 22 | 4 => 23 | 5 => 24 | 6 => 18 | 7 => 25 | 8 => 26 | 9 => 5 | 10 => 6 | 11 => 5 | 12 => 6 | _ => 0) (fun j => match j with | 0 => [] | 1 => [] | 2 => [] | 3 => [2] | 4 => [1, 2, 3] | 5 => [0, 1, 2, 3, 4] | 6 => [0, 1, 2, 3, 4, 5] | 7 => [0, 1, 2, 3, 4, 5, 6] | 8 => [0, 1, 2, 3, 4, 5, 6] | 9 => [] | 10 => [] | 11 => [0, 1, 2, 3, 4, 5, 6, 7, 9] | 12 => [0, 1, 2, 3, 4, 5, 6, 8, 10] | _ => []) G (fun j => match j with | 0 => [] | 1 => [] | 2 => [] | 3 => [] | 4 => [69] | 5 => [] | 6 => [] | 7 => [] | 8 => [] | 9 => [] | 10 => [] | 11 => [31] | 12 => [33] | _ => []) 63 (by kernel_rfl) (by kernel_rfl) rfl (by decide) (curI_drew hS.out.cur hzg) ?firm0 ?stp0 ?fin0
      case firm0 =>
        intro i j hj hnd v
        match i with
        | 0 => exact firm0 j v
        | 1 => exact firm0 j v
        | 2 => exact firm0 j v
        | 3 => exact firm0 j v
        | 4 => exact firm1 j v
        | 5 => exact firm0 j v
        | 6 => exact firm0 j v
        | 7 => exact firm0 j v
        | 8 => exact firm0 j v
        | 9 => exact firm0 j v
        | 10 => exact firm0 j v
        | 11 => exact firm2 j v hj
        | 12 => exact firm3 j v hj
        | i + 13 => exact firm0 j v
      case stp0 =>
        refine StepsFrom.cons ?op0_0 (StepsFrom.cons ?op0_1 (StepsFrom.cons ?op0_2 (StepsFrom.cons ?op0_3 (StepsFrom.cons ?op0_4 (StepsFrom.cons ?op0_5 (StepsFrom.cons ?op0_6 (StepsFrom.cons ?op0_7 (StepsFrom.cons ?op0_8 (StepsFrom.cons ?op0_9 (StepsFrom.cons ?op0_10 (StepsFrom.cons ?op0_11 (StepsFrom.cons ?op0_12 (StepsFrom.nil)))))))))))))
        case op0_0 =>
          intro vs wy b hin hout hb hdep K hK
          have t3 : b.tmps[3]? = some (.pointer (some ⟨B, 0, none⟩)) := (hout 3 (by decide)).trans rfl
          clear hin hout hdep
          replace hK : ∀ v w', (CurI wr g l) w' → Moved [] wy w' → (fun (v : Value) (wx : World) => v = .agg #[.string pk, .bool po, .bool pb, s, .int .i64 pn, t]) v w' → K (b.put (some 19) v) w' := fun v w' q1 q2 q3 => hK v w' q1 q2 (Eq.mpr (G0 _ _) q3)
          refine ⟨wanted_plain rfl, ?_⟩
          have KW : ∀ k : Nat, wy.cell? ⟨B, k, none⟩ = _ := fun k => grown_cell hb.2 hzB hBg k
          go_simp
          exact hK _ _ hb (moved_refl _) rfl
        case op0_1 =>
          intro vs wy b hin hout hb hdep K hK
          have t0 : b.tmps[0]? = some (.pointer (some ⟨g, 0, none⟩)) := (hout 0 (by decide)).trans rfl
          clear hin hout hdep
          replace hK : ∀ v w', (CurI wr g l) w' → Moved [] wy w' → (fun (v : Value) (wx : World) => v = .pointer (some ⟨g, 0, none⟩)) v w' → K (b.put (some 20) v) w' := fun v w' q1 q2 q3 => hK v w' q1 q2 (Eq.mpr (G1 _ _) q3)
          refine ⟨wanted_plain rfl, ?_⟩
          go_simp
          exact hK _ _ hb (moved_refl _) rfl
        case op0_2 =>
          intro vs wy b hin hout hb hdep K hK
          have t3 : b.tmps[3]? = some (.pointer (some ⟨B, 0, none⟩)) := (hout 3 (by decide)).trans rfl
          clear hin hout hdep
          replace hK : ∀ v w', (CurI wr g l) w' → Moved [] wy w' → (fun (v : Value) (wx : World) => v = .agg #[.string pk, .bool po, .bool pb, s, .int .i64 pn, t]) v w' → K (b.put (some 21) v) w' := fun v w' q1 q2 q3 => hK v w' q1 q2 (Eq.mpr (G2 _ _) q3)
          refine ⟨wanted_plain rfl, ?_⟩
          have KW : ∀ k : Nat, wy.cell? ⟨B, k, none⟩ = _ := fun k => grown_cell hb.2 hzB hBg k
          go_simp
          exact hK _ _ hb (moved_refl _) rfl
        case op0_3 =>
          intro vs wy b hin hout hb hdep K hK
          have h2 : (fun (v : Value) (wx : World) => v = .agg #[.string pk, .bool po, .bool pb, s, .int .i64 pn, t]) (vs 21) wy := by
            have h := hdep 2 (by decide)
            rw [G2] at h
            exact h
          dsimp only at h2
          have t21 := hin 21 (by decide)
          clear hin hout hdep
          replace hK : ∀ v w', (CurI wr g l) w' → Moved [] wy w' → (fun (v : Value) (wx : World) => v = .int .i64 F) v w' → K (b.put (some 22) v) w' := fun v w' q1 q2 q3 => hK v w' q1 q2 (Eq.mpr (G3 _ _) q3)
          refine ⟨wanted_plain rfl, ?_⟩
          have e2 := h2
          go_simp
          refine (sFaceOf_c (⟨⟨pk, po, pb, pl, pn⟩, py⟩ : Pu.PartD) s t _ (OwnL.rd (fun _ => rfl) (hS.out.keep hgs hBW hb).lays)).mono ?_
          rintro e wz ⟨rfl, bT⟩
          rw [hF.out]
          exact hK _ _ (curI_below hb hzg bT) (.inl bT) rfl
        case op0_4 =>
          intro vs wy b hin hout hb hdep K hK
          have h1 : (fun (v : Value) (wx : World) => v = .pointer (some ⟨g, 0, none⟩)) (vs 20) wy := by
            have h := hdep 1 (by decide)
            rw [G1] at h
            exact h
          dsimp only at h1
          have h3 : (fun (v : Value) (wx : World) => v = .int .i64 F) (vs 22) wy := by
            have h := hdep 3 (by decide)
            rw [G3] at h
            exact h
          dsimp only at h3
          have t20 := hin 20 (by decide)
          have t22 := hin 22 (by decide)
          clear hin hout hdep
          replace hK : ∀ v w', (CurI wr g l) w' → Moved [69] wy w' → (fun (v : Value) (wx : World) => ∃ n9 : ByteArray, v = .string n9) v w' → K (b.put (some 23) v) w' := fun v w' q1 q2 q3 => hK v w' q1 q2 (Eq.mpr (G4 _ _) q3)
          refine ⟨wanted_plain rfl, ?_⟩
          have e1 := h1
          have e3 := h3
          go_simp
          refine (l4Fitting_c g l F _ hb.1 (curI_lt hb hzg)).mono ?_
          rintro e wz ⟨n9, rfl, _, hc9, hgr9⟩
          exact hK _ _ (curI_draw hb hc9 hgr9) (moved_draw hb.1 hc9 hgr9) ⟨n9, rfl⟩
        case op0_5 =>
          intro vs wy b hin hout hb hdep K hK
          have h0 : (fun (v : Value) (wx : World) => v = .agg #[.string pk, .bool po, .bool pb, s, .int .i64 pn, t]) (vs 19) wy := by
            have h := hdep 0 (by decide)
            rw [G0] at h
            exact h
          dsimp only at h0
          have h4 : (fun (v : Value) (wx : World) => ∃ n9 : ByteArray, v = .string n9) (vs 23) wy := by
            have h := hdep 4 (by decide)
            rw [G4] at h
            exact h
          dsimp only at h4
          have t19 := hin 19 (by decide)
          have t23 := hin 23 (by decide)
          clear hin hout hdep
          replace hK : ∀ v w', (CurI wr g l) w' → Moved [] wy w' → (fun (v : Value) (wx : World) => ∃ (q : Pu.PartD) (r : Pu.ReplyD) (s9 t9 : Value), v = .tuple #[.agg #[.string q.core.kind, .bool q.core.on, .bool q.core.broken, s9, .int .i64 q.core.count, t9], .agg #[.int .i64 r.code, .int .i64 r.value, .string r.text, .int .i64 r.want, .int .i64 r.had]] ∧ DrawnP q (3 - k + 1) ∧ OwnL wx wr.heap.size 74 2 cellEn s9 q.core.cells ∧ OwnL wx wr.heap.size 57 2 layerEn t9 q.layers) v w' → K (b.put (some 24) v) w' := fun v w' q1 q2 q3 => hK v w' q1 q2 (Eq.mpr (G5 _ _) q3)
          refine ⟨wanted_plain rfl, ?_⟩
          have e0 := h0
          obtain ⟨n9, e4⟩ := h4
          have st9 := hS.out.keep hgs hBW hb
          go_simp
          refine (sWrap_c (⟨⟨pk, po, pb, pl, pn⟩, py⟩ : Pu.PartD) n9 s t _ hD.out.1.wf ⟨OwnL.rd (fun _ => rfl) st9.cells, DrawnC.wf hD.out.1.2.2⟩ (OwnL.rd (fun _ => rfl) st9.lays) hpl hpy).mono ?_
          rintro e wz ⟨⟨s9, t9, rfl, o9, p9, _⟩, bT⟩
          exact hK _ _ (curI_below hb hzg bT) (.inl bT) ⟨_, _, s9, t9, rfl, drawn_wrap hD.out n9, o9.mono hb.2.size, p9.mono hb.2.size⟩
        case op0_6 =>
          intro vs wy b hin hout hb hdep K hK
          have h5 : (fun (v : Value) (wx : World) => ∃ (q : Pu.PartD) (r : Pu.ReplyD) (s9 t9 : Value), v = .tuple #[.agg #[.string q.core.kind, .bool q.core.on, .bool q.core.broken, s9, .int .i64 q.core.count, t9], .agg #[.int .i64 r.code, .int .i64 r.value, .string r.text, .int .i64 r.want, .int .i64 r.had]] ∧ DrawnP q (3 - k + 1) ∧ OwnL wx wr.heap.size 74 2 cellEn s9 q.core.cells ∧ OwnL wx wr.heap.size 57 2 layerEn t9 q.layers) (vs 24) wy := by
            have h := hdep 5 (by decide)
            rw [G5] at h
            exact h
          dsimp only at h5
          have t24 := hin 24 (by decide)
          clear hin hout hdep
          replace hK : ∀ v w', (CurI wr g l) w' → Moved [] wy w' → (fun (v : Value) (wx : World) => ∃ (q : Pu.PartD) (r : Pu.ReplyD) (s9 t9 : Value), v = .tuple #[.agg #[.string q.core.kind, .bool q.core.on, .bool q.core.broken, s9, .int .i64 q.core.count, t9], .agg #[.int .i64 r.code, .int .i64 r.value, .string r.text, .int .i64 r.want, .int .i64 r.had]] ∧ DrawnP q (3 - k + 1) ∧ OwnL wx wr.heap.size 74 2 cellEn s9 q.core.cells ∧ OwnL wx wr.heap.size 57 2 layerEn t9 q.layers) v w' → K (b.put (some 18) v) w' := fun v w' q1 q2 q3 => hK v w' q1 q2 (Eq.mpr (G6 _ _) q3)
          refine ⟨wanted_plain rfl, ?_⟩
          obtain ⟨q, r, s9, t9, e9, hq9, o9, p9⟩ := h5
          go_simp
          exact hK _ _ hb (moved_refl _) ⟨q, r, s9, t9, rfl, hq9, o9, p9⟩
        case op0_7 =>
          intro vs wy b hin hout hb hdep K hK
          have h6 : (fun (v : Value) (wx : World) => ∃ (q : Pu.PartD) (r : Pu.ReplyD) (s9 t9 : Value), v = .tuple #[.agg #[.string q.core.kind, .bool q.core.on, .bool q.core.broken, s9, .int .i64 q.core.count, t9], .agg #[.int .i64 r.code, .int .i64 r.value, .string r.text, .int .i64 r.want, .int .i64 r.had]] ∧ DrawnP q (3 - k + 1) ∧ OwnL wx wr.heap.size 74 2 cellEn s9 q.core.cells ∧ OwnL wx wr.heap.size 57 2 layerEn t9 q.layers) (vs 18) wy := by
            have h := hdep 6 (by decide)
            rw [G6] at h
            exact h
          dsimp only at h6
          have t18 := hin 18 (by decide)
          clear hin hout hdep
          replace hK : ∀ v w', (CurI wr g l) w' → Moved [] wy w' → (fun (v : Value) (wx : World) => ∃ (q : Pu.PartD) (s9 t9 : Value), v = .agg #[.string q.core.kind, .bool q.core.on, .bool q.core.broken, s9, .int .i64 q.core.count, t9] ∧ DrawnP q (3 - k + 1) ∧ OwnL wx wr.heap.size 74 2 cellEn s9 q.core.cells ∧ OwnL wx wr.heap.size 57 2 layerEn t9 q.layers) v w' → K (b.put (some 25) v) w' := fun v w' q1 q2 q3 => hK v w' q1 q2 (Eq.mpr (G7 _ _) q3)
          refine ⟨wanted_plain rfl, ?_⟩
          obtain ⟨q, r, s9, t9, e9, hq9, o9, p9⟩ := h6
          go_simp
          exact hK _ _ hb (moved_refl _) ⟨q, s9, t9, rfl, hq9, o9, p9⟩
        case op0_8 =>
          intro vs wy b hin hout hb hdep K hK
          have h6 : (fun (v : Value) (wx : World) => ∃ (q : Pu.PartD) (r : Pu.ReplyD) (s9 t9 : Value), v = .tuple #[.agg #[.string q.core.kind, .bool q.core.on, .bool q.core.broken, s9, .int .i64 q.core.count, t9], .agg #[.int .i64 r.code, .int .i64 r.value, .string r.text, .int .i64 r.want, .int .i64 r.had]] ∧ DrawnP q (3 - k + 1) ∧ OwnL wx wr.heap.size 74 2 cellEn s9 q.core.cells ∧ OwnL wx wr.heap.size 57 2 layerEn t9 q.layers) (vs 18) wy := by
            have h := hdep 6 (by decide)
            rw [G6] at h
            exact h
          dsimp only at h6
          have t18 := hin 18 (by decide)
          clear hin hout hdep
          replace hK : ∀ v w', (CurI wr g l) w' → Moved [] wy w' → (fun (v : Value) (wx : World) => ∃ r : Pu.ReplyD, v = .agg #[.int .i64 r.code, .int .i64 r.value, .string r.text, .int .i64 r.want, .int .i64 r.had]) v w' → K (b.put (some 26) v) w' := fun v w' q1 q2 q3 => hK v w' q1 q2 (Eq.mpr (G8 _ _) q3)
          refine ⟨wanted_plain rfl, ?_⟩
          obtain ⟨q, r, s9, t9, e9, hq9, o9, p9⟩ := h6
          go_simp
          exact hK _ _ hb (moved_refl _) ⟨r, rfl⟩
        case op0_9 =>
          intro vs wy b hin hout hb hdep K hK
          clear hin hout hdep
          replace hK : ∀ v w', (CurI wr g l) w' → Moved [] wy w' → (fun (v : Value) (wx : World) => BlkG wr.heap.size 31 6 v wx) v w' → K (b.put (some 5) v) w' := fun v w' q1 q2 q3 => hK v w' q1 q2 (Eq.mpr (G9 _ _) q3)
          refine ⟨wanted_plain rfl, ?_⟩
          go_simp
          exact hK _ _ (curI_below hb hzg (below_alloc (Below.refl _ _) _)) (.inl (below_alloc (Below.refl _ _) _)) ⟨_, _, rfl, hb.2.size, heap_new rfl, rfl⟩
        case op0_10 =>
          intro vs wy b hin hout hb hdep K hK
          clear hin hout hdep
          replace hK : ∀ v w', (CurI wr g l) w' → Moved [] wy w' → (fun (v : Value) (wx : World) => BlkG wr.heap.size 33 5 v wx) v w' → K (b.put (some 6) v) w' := fun v w' q1 q2 q3 => hK v w' q1 q2 (Eq.mpr (G10 _ _) q3)
          refine ⟨wanted_plain rfl, ?_⟩
          go_simp
          exact hK _ _ (curI_below hb hzg (below_alloc (Below.refl _ _) _)) (.inl (below_alloc (Below.refl _ _) _)) ⟨_, _, rfl, hb.2.size, heap_new rfl, rfl⟩
        case op0_11 =>
          intro vs wy b hin hout hb hdep K hK
          have h9 : (fun (v : Value) (wx : World) => BlkG wr.heap.size 31 6 v wx) (vs 5) wy := by
            have h := hdep 9 (by decide)
            rw [G9] at h
            exact h
          dsimp only at h9
          have h7 : (fun (v : Value) (wx : World) => ∃ (q : Pu.PartD) (s9 t9 : Value), v = .agg #[.string q.core.kind, .bool q.core.on, .bool q.core.broken, s9, .int .i64 q.core.count, t9] ∧ DrawnP q (3 - k + 1) ∧ OwnL wx wr.heap.size 74 2 cellEn s9 q.core.cells ∧ OwnL wx wr.heap.size 57 2 layerEn t9 q.layers) (vs 25) wy := by
            have h := hdep 7 (by decide)
            rw [G7] at h
            exact h
          dsimp only at h7
          have t5 := hin 5 (by decide)
          have t25 := hin 25 (by decide)
          clear hin hout hdep
          replace hK : ∀ v w', (CurI wr g l) w' → Moved [31] wy w' → (fun (v : Value) (wx : World) => FinG wr.heap.size 31 (fun cs wx => ∃ (q : Pu.PartD) (s9 t9 : Value), cs = #[.string q.core.kind, .bool q.core.on, .bool q.core.broken, s9, .int .i64 q.core.count, t9] ∧ DrawnP q (3 - k + 1) ∧ OwnL wx wr.heap.size 74 2 cellEn s9 q.core.cells ∧ OwnL wx wr.heap.size 57 2 layerEn t9 q.layers) v wx) (vs 5) w' → K (b.put (none) v) w' := fun v w' q1 q2 q3 => hK v w' q1 q2 (Eq.mpr (G11 _ _) q3)
          refine ⟨wanted_plain rfl, ?_⟩
          obtain ⟨g9, cs9, e8, hB9, hg9, hn9⟩ := h9
          obtain ⟨x0, x1, x2, x3, x4, x5, rfl⟩ := six_of hn9
          obtain ⟨_, _, _, _, _, _, _⟩ := six_cells hg9
          obtain ⟨q, s9, t9, e9, hq9, o9, p9⟩ := h7; obtain ⟨A9, c9, rfl⟩ := o9.shape; obtain ⟨A8, c8, rfl⟩ := p9.shape
          go_simp
          have hst := store6 (.string q.core.kind) (.bool q.core.on) (.bool q.core.broken) (.slice A9 q.core.cells.length c9) (.int .i64 q.core.count) (.slice A8 q.layers.length c8) hg9 hn9
          refine hK undef _ ?_ (.inr ⟨g9, 31, by simp, hst.2⟩) ⟨g9, _, e8, hB9, hst.1, q, _, _, rfl, hq9, firm_own (TS := [31]) (by decide) _ _ (.inr ⟨g9, 31, by simp, hst.2⟩) o9, firm_own (TS := [31]) (by decide) _ _ (.inr ⟨g9, 31, by simp, hst.2⟩) p9⟩
          obtain ⟨_, _, _, _, _, hgr⟩ := hst.2
          exact curI_store hb hzg hB9 hgr
        case op0_12 =>
          intro vs wy b hin hout hb hdep K hK
          have h10 : (fun (v : Value) (wx : World) => BlkG wr.heap.size 33 5 v wx) (vs 6) wy := by
            have h := hdep 10 (by decide)
            rw [G10] at h
            exact h
          dsimp only at h10
          have h8 : (fun (v : Value) (wx : World) => ∃ r : Pu.ReplyD, v = .agg #[.int .i64 r.code, .int .i64 r.value, .string r.text, .int .i64 r.want, .int .i64 r.had]) (vs 26) wy := by
            have h := hdep 8 (by decide)
            rw [G8] at h
            exact h
          dsimp only at h8
          have t6 := hin 6 (by decide)
          have t26 := hin 26 (by decide)
          clear hin hout hdep
          replace hK : ∀ v w', (CurI wr g l) w' → Moved [33] wy w' → (fun (v : Value) (wx : World) => FinG wr.heap.size 33 (fun cs wx => ∃ r : Pu.ReplyD, cs = #[.int .i64 r.code, .int .i64 r.value, .string r.text, .int .i64 r.want, .int .i64 r.had]) v wx) (vs 6) w' → K (b.put (none) v) w' := fun v w' q1 q2 q3 => hK v w' q1 q2 (Eq.mpr (G12 _ _) q3)
          refine ⟨wanted_plain rfl, ?_⟩
          obtain ⟨g9, cs9, e8, hB9, hg9, hn9⟩ := h10
          obtain ⟨x0, x1, x2, x3, x4, rfl⟩ := five_of hn9
          obtain ⟨_, _, _, _, _, _⟩ := five_cells hg9
          obtain ⟨r, e9⟩ := h8
          go_simp
          have hst := store5 (.int .i64 r.code) (.int .i64 r.value) (.string r.text) (.int .i64 r.want) (.int .i64 r.had) hg9 hn9
          refine hK undef _ ?_ (.inr ⟨g9, 33, by simp, hst.2⟩) ⟨g9, _, e8, hB9, hst.1, r, rfl⟩
          obtain ⟨_, _, _, _, _, hgr⟩ := hst.2
          exact curI_store hb hzg hB9 hgr
      case fin0 =>
        intro vs wz b hin hbeq hb hall
        have f11 : (fun (v : Value) (wx : World) => FinG wr.heap.size 31 (fun cs wx => ∃ (q : Pu.PartD) (s9 t9 : Value), cs = #[.string q.core.kind, .bool q.core.on, .bool q.core.broken, s9, .int .i64 q.core.count, t9] ∧ DrawnP q (3 - k + 1) ∧ OwnL wx wr.heap.size 74 2 cellEn s9 q.core.cells ∧ OwnL wx wr.heap.size 57 2 layerEn t9 q.layers) v wx) (vs 5) wz := by
          have h := hall 11 (by decide)
          rw [G11] at h
          exact h
        dsimp only at f11
        have f12 : (fun (v : Value) (wx : World) => FinG wr.heap.size 33 (fun cs wx => ∃ r : Pu.ReplyD, cs = #[.int .i64 r.code, .int .i64 r.value, .string r.text, .int .i64 r.want, .int .i64 r.had]) v wx) (vs 6) wz := by
          have h := hall 12 (by decide)
          rw [G12] at h
          exact h
        dsimp only at f12
        clear hall hin
        subst hbeq
        simp only [actAt, slots, List.foldl_cons, List.foldl_nil, List.setIfInBounds_toArray, List.set_cons_zero, List.set_cons_succ]
        have hSz := hide (hS.out.keep hgs hBW hb)
        obtain ⟨g5, cs5, e5, hB5, hr5, q, s9, t9, rfl, hq9, o9, p9⟩ := f11
        obtain ⟨g6, cs6, e6, hB6, hr6, r, rfl⟩ := f12
        obtain ⟨⟨qk, qo, qb, ql, qn⟩, qy⟩ := q
        obtain ⟨rc, rv, rt, rw_, rh⟩ := r
        obtain ⟨A9, c9, rfl⟩ := o9.shape
        obtain ⟨A8, c8, rfl⟩ := p9.shape
        dsimp only at hr5 hr6 o9 p9
        have HO := hide (o9.mono hS.out.grown.size)
        have HP := hide (p9.mono hS.out.grown.size)
        have HQ := hide hq9
        clear o9 p9 hq9 Xwr
        have R5 := hide hr5
        have R6 := hide hr6
        clear hr5 hr6
        have Xwz := hide (show wz.heap[B]? = some (.cells #[.string pk, .bool po, .bool pb, s, .int .i64 pn, t] 31 (0, 0) : Obj) from hSz.out.row)
        obtain ⟨_, _, _, _, _, _, _⟩ := six_cells Xwz.out
        obtain ⟨_, _, _, _, _, _, _⟩ := six_cells R5.out
        obtain ⟨_, _, _, _, _, _⟩ := five_cells R6.out
        by_cases hrc : rc = 0
        · subst hrc
          go_wp2
          go_roundw
          case rel => exact ⟨k - 1, (⟨⟨qk, qo, qb, ql, qn⟩, qy⟩ : Pu.PartD), _, _, by omega, by rw [show ((k - 1 : Nat) : Int) = (k : Int) - 1 by omega], (show DrawnP _ (3 - (k - 1)) by have := HQ.out; rw [show 3 - (k - 1) = 3 - k + 1 by omega]; exact this), hSz.out.put hgs hBW HO.out HP.out⟩
          case measure => simp [intOf]; omega
        · have hrb : (rc == 0) = false := by simp [hrc]
          go_wp2
          go_roundw
          case rel => exact ⟨k - 1, (⟨⟨pk, po, pb, pl, pn⟩, py⟩ : Pu.PartD), s, t, by omega, by rw [show ((k - 1 : Nat) : Int) = (k : Int) - 1 by omega], (show DrawnP _ (3 - (k - 1)) from ⟨hD.out.1, by have := hD.out.2; omega⟩), hSz⟩
          case measure => simp [intOf]; omega
    · obtain ⟨At, ct, ht⟩ : ∃ A c, t = .slice A py.length c := OwnL.shape hS.out.lays
      subst ht
      have X1 := hide (show wr.heap[B]? = some (.cells #[.string pk, .bool po, .bool pb, s, .int .i64 pn, .slice At py.length ct] 31 (0, 0) : Obj) from hS.out.row)
      clear Xwr
      obtain ⟨_, _, _, _, _, _, _⟩ := six_cells X1.out
      have hpy1 : py.length ≤ 9223372036854775807 := by omega
      go_wp2_with fail
      clear X1
      obtain ⟨wo, hwo⟩ : ∃ wo : World, wo = wr := ⟨_, rfl⟩
      go_loopw [34] (fun i wx => ∃ (jj : Nat) (ys : List Pu.LayerD), jj ≤ py.length ∧ i = .int .i64 jj ∧ Hid (ys.length = py.length) ∧ Hid (PartSt w g B l (⟨⟨pk, po, pb, pl, pn⟩, ys⟩ : Pu.PartD) s (.slice At py.length ct) wx)) (fun i _ => py.length - (intOf i).toNat)
      case atStart => exact ⟨0, py, by omega, rfl, rfl, hS⟩
      case round =>
        clear hS
        obtain ⟨jj, ys, hj, rfl, hyl, hS⟩ := hrel
        by_cases hlt2 : jj < py.length
        · obtain ⟨gt, c2, x, e1, hx, k0, k1, k2, hc1, hc2, hg1, hg2⟩ := hS.out.at_ (k := jj) (by show jj < ys.length; rw [hyl.out]; exact hlt2)
          injection e1 with e1 e9 e2
          subst e1 e2
          clear e9
          have hpc : py.length ≤ ct := by have h9 : ys.length ≤ ct := hc1; have := hyl.out; omega
          clear hc1
          obtain ⟨nm, hnm⟩ : ∃ nm, x.name = nm := ⟨_, rfl⟩
          obtain ⟨nv, hnv⟩ : ∃ nv, x.count = nv := ⟨_, rfl⟩
          rw [hnm] at k0
          rw [hnv] at k1
          clear hnm hnv
          have X1 := hide (show wr.heap[B]? = some (.cells #[.string pk, .bool po, .bool pb, s, .int .i64 pn, .slice (some ⟨gt, 0, none⟩) py.length ct] 31 (0, 0) : Obj) from hS.out.row)
          obtain ⟨_, _, _, _, _, _, _⟩ := six_cells X1.out
          obtain ⟨w4, hw4⟩ : ∃ w4, Hid (wr.alloc (.cells #[.string nm, .int .i64 nv] 57 : Obj) = w4) := ⟨_, rfl⟩
          have hS4 : Hid (PartSt w g B l (⟨⟨pk, po, pb, pl, pn⟩, ys⟩ : Pu.PartD) s (.slice (some ⟨gt, 0, none⟩) py.length ct) w4) := by rw [← hw4.out]; exact hS.out.below hgs hBW (below_alloc (Below.refl _ _) _)
          rcases (by cases (nm.toList == [99, 111, 117, 110, 116, 115]) <;> simp : (nm.toList == [99, 111, 117, 110, 116, 115]) = true ∨ (nm.toList == [99, 111, 117, 110, 116, 115]) = false) with hn1 | hn1
          · skip
            go_upto_region 12 with fail
            rw [hw4.out]
            clear X1
            obtain ⟨G, hGdef⟩ : ∃ G : Nat → Value → World → Prop, G = (fun j v wx => match j with | 0 => (v = .pointer (some ⟨B, 5, none⟩)) | 1 => (v = .slice (some ⟨gt, 0, none⟩) py.length ct) | 2 => (v = .int .i64 (jj : Int)) | 3 => (v = .pointer (some ⟨g, 0, none⟩)) | 4 => (∃ z : Int, v = .int .i64 z) | 5 => (v = .pointer (some ⟨gt, jj * 2, none⟩)) | 6 => (v = .pointer (some ⟨gt, jj * 2 + 1, none⟩)) | 7 => (True) | _ => True) := ⟨_, rfl⟩
            have G0 : ∀ v wx, G 0 v wx = (v = .pointer (some ⟨B, 5, none⟩)) := fun v wx => (congrFun (congrFun (congrFun hGdef 0) v) wx).trans rfl
            have G1 : ∀ v wx, G 1 v wx = (v = .slice (some ⟨gt, 0, none⟩) py.length ct) := fun v wx => (congrFun (congrFun (congrFun hGdef 1) v) wx).trans rfl
            have G2 : ∀ v wx, G 2 v wx = (v = .int .i64 (jj : Int)) := fun v wx => (congrFun (congrFun (congrFun hGdef 2) v) wx).trans rfl
            have G3 : ∀ v wx, G 3 v wx = (v = .pointer (some ⟨g, 0, none⟩)) := fun v wx => (congrFun (congrFun (congrFun hGdef 3) v) wx).trans rfl
            have G4 : ∀ v wx, G 4 v wx = (∃ z : Int, v = .int .i64 z) := fun v wx => (congrFun (congrFun (congrFun hGdef 4) v) wx).trans rfl
            have G5 : ∀ v wx, G 5 v wx = (v = .pointer (some ⟨gt, jj * 2, none⟩)) := fun v wx => (congrFun (congrFun (congrFun hGdef 5) v) wx).trans rfl
            have G6 : ∀ v wx, G 6 v wx = (v = .pointer (some ⟨gt, jj * 2 + 1, none⟩)) := fun v wx => (congrFun (congrFun (congrFun hGdef 6) v) wx).trans rfl
            have G7 : ∀ v wx, G 7 v wx = (True) := fun v wx => (congrFun (congrFun (congrFun hGdef 7) v) wx).trans rfl
            have Gn : ∀ j v wx, G (j + 8) v wx = True := fun j v wx => (congrFun (congrFun (congrFun hGdef _) v) wx).trans rfl
            clear hGdef
            have firm0 : ∀ j v, Firm [] (G j v) := by
              intro j v
              match j with
              | 0 => rw [show G 0 v = (fun wx => v = .pointer (some ⟨B, 5, none⟩)) from funext (G0 v)]; exact firm_const _
              | 1 => rw [show G 1 v = (fun wx => v = .slice (some ⟨gt, 0, none⟩) py.length ct) from funext (G1 v)]; exact firm_const _
              | 2 => rw [show G 2 v = (fun wx => v = .int .i64 (jj : Int)) from funext (G2 v)]; exact firm_const _
              | 3 => rw [show G 3 v = (fun wx => v = .pointer (some ⟨g, 0, none⟩)) from funext (G3 v)]; exact firm_const _
              | 4 => rw [show G 4 v = (fun wx => ∃ z : Int, v = .int .i64 z) from funext (G4 v)]; exact firm_const _
              | 5 => rw [show G 5 v = (fun wx => v = .pointer (some ⟨gt, jj * 2, none⟩)) from funext (G5 v)]; exact firm_const _
              | 6 => rw [show G 6 v = (fun wx => v = .pointer (some ⟨gt, jj * 2 + 1, none⟩)) from funext (G6 v)]; exact firm_const _
              | 7 => rw [show G 7 v = (fun wx => True) from funext (G7 v)]; exact firm_const _
              | j + 8 => rw [show G (j + 8) v = (fun wx => True) from funext (Gn j v)]; exact firm_const _
            have firm1 : ∀ j v, Firm [69] (G j v) := by
              intro j v
              match j with
              | 0 => rw [show G 0 v = (fun wx => v = .pointer (some ⟨B, 5, none⟩)) from funext (G0 v)]; exact firm_const _
              | 1 => rw [show G 1 v = (fun wx => v = .slice (some ⟨gt, 0, none⟩) py.length ct) from funext (G1 v)]; exact firm_const _
              | 2 => rw [show G 2 v = (fun wx => v = .int .i64 (jj : Int)) from funext (G2 v)]; exact firm_const _
              | 3 => rw [show G 3 v = (fun wx => v = .pointer (some ⟨g, 0, none⟩)) from funext (G3 v)]; exact firm_const _
              | 4 => rw [show G 4 v = (fun wx => ∃ z : Int, v = .int .i64 z) from funext (G4 v)]; exact firm_const _
              | 5 => rw [show G 5 v = (fun wx => v = .pointer (some ⟨gt, jj * 2, none⟩)) from funext (G5 v)]; exact firm_const _
              | 6 => rw [show G 6 v = (fun wx => v = .pointer (some ⟨gt, jj * 2 + 1, none⟩)) from funext (G6 v)]; exact firm_const _
              | 7 => rw [show G 7 v = (fun wx => True) from funext (G7 v)]; exact firm_const _
              | j + 8 => rw [show G (j + 8) v = (fun wx => True) from funext (Gn j v)]; exact firm_const _
            have firm2 : ∀ j v, Firm [57] (G j v) := by
              intro j v
              match j with
              | 0 => rw [show G 0 v = (fun wx => v = .pointer (some ⟨B, 5, none⟩)) from funext (G0 v)]; exact firm_const _
              | 1 => rw [show G 1 v = (fun wx => v = .slice (some ⟨gt, 0, none⟩) py.length ct) from funext (G1 v)]; exact firm_const _
              | 2 => rw [show G 2 v = (fun wx => v = .int .i64 (jj : Int)) from funext (G2 v)]; exact firm_const _
              | 3 => rw [show G 3 v = (fun wx => v = .pointer (some ⟨g, 0, none⟩)) from funext (G3 v)]; exact firm_const _
              | 4 => rw [show G 4 v = (fun wx => ∃ z : Int, v = .int .i64 z) from funext (G4 v)]; exact firm_const _
              | 5 => rw [show G 5 v = (fun wx => v = .pointer (some ⟨gt, jj * 2, none⟩)) from funext (G5 v)]; exact firm_const _
              | 6 => rw [show G 6 v = (fun wx => v = .pointer (some ⟨gt, jj * 2 + 1, none⟩)) from funext (G6 v)]; exact firm_const _
              | 7 => rw [show G 7 v = (fun wx => True) from funext (G7 v)]; exact firm_const _
              | j + 8 => rw [show G (j + 8) v = (fun wx => True) from funext (Gn j v)]; exact firm_const _
            refine wp_region_absG (fun wx => ∃ ys : List Pu.LayerD, ys.length = py.length ∧ PartSt w g B l (⟨⟨pk, po, pb, pl, pn⟩, ys⟩ : Pu.PartD) s (.slice (some ⟨gt, 0, none⟩) py.length ct) wx) [47, 48, 49, 50, 51, 52, 53] (fun j => match j with | 0 => 47 | 1 => 48 | 2 => 49 | 3 => 50 | 4 => 51 | 5 => 52 | 6 => 53 | 7 => 53 | _ => 0) (fun j => match j with | 0 => [] | 1 => [0] | 2 => [] | 3 => [] | 4 => [3] | 5 => [0, 1, 2] | 6 => [0, 1, 2, 5] | 7 => [0, 1, 2, 3, 4, 5, 6] | _ => []) G (fun j => match j with | 0 => [] | 1 => [] | 2 => [] | 3 => [] | 4 => [69] | 5 => [] | 6 => [] | 7 => [57] | _ => []) 63 (by kernel_rfl) (by kernel_rfl) rfl (by decide) (⟨ys, hyl.out, hS4.out.below hgs hBW (Below.refl _ _).drew⟩) ?firmc ?stpc ?finc
            case firmc =>
              intro i j hj hnd v
              match i with
              | 0 => exact firm0 j v
              | 1 => exact firm0 j v
              | 2 => exact firm0 j v
              | 3 => exact firm0 j v
              | 4 => exact firm1 j v
              | 5 => exact firm0 j v
              | 6 => exact firm0 j v
              | 7 => exact firm2 j v
              | i + 8 => exact firm0 j v
            case stpc =>
              refine StepsFrom.cons ?opc_0 (StepsFrom.cons ?opc_1 (StepsFrom.cons ?opc_2 (StepsFrom.cons ?opc_3 (StepsFrom.cons ?opc_4 (StepsFrom.cons ?opc_5 (StepsFrom.cons ?opc_6 (StepsFrom.cons ?opc_7 (StepsFrom.nil))))))))
              case opc_0 =>
                intro vs wy b hin hout hb hdep K hK
                have t3 : b.tmps[3]? = some (.pointer (some ⟨B, 0, none⟩)) := (hout 3 (by decide)).trans rfl
                clear hin hout hdep
                replace hK : ∀ v w', (fun wx => ∃ ys : List Pu.LayerD, ys.length = py.length ∧ PartSt w g B l (⟨⟨pk, po, pb, pl, pn⟩, ys⟩ : Pu.PartD) s (.slice (some ⟨gt, 0, none⟩) py.length ct) wx) w' → Moved [] wy w' → (fun (v : Value) (wx : World) => v = .pointer (some ⟨B, 5, none⟩)) v w' → K (b.put (some 47) v) w' := fun v w' q1 q2 q3 => hK v w' q1 q2 (Eq.mpr (G0 _ _) q3)
                refine ⟨wanted_plain rfl, ?_⟩
                go_simp
                exact hK _ _ hb (moved_refl _) rfl
              case opc_1 =>
                intro vs wy b hin hout hb hdep K hK
                have h0 : (fun (v : Value) (wx : World) => v = .pointer (some ⟨B, 5, none⟩)) (vs 47) wy := by
                  have h := hdep 0 (by decide)
                  rw [G0] at h
                  exact h
                dsimp only at h0
                have t47 := hin 47 (by decide)
                clear hin hout hdep
                replace hK : ∀ v w', (fun wx => ∃ ys : List Pu.LayerD, ys.length = py.length ∧ PartSt w g B l (⟨⟨pk, po, pb, pl, pn⟩, ys⟩ : Pu.PartD) s (.slice (some ⟨gt, 0, none⟩) py.length ct) wx) w' → Moved [] wy w' → (fun (v : Value) (wx : World) => v = .slice (some ⟨gt, 0, none⟩) py.length ct) v w' → K (b.put (some 48) v) w' := fun v w' q1 q2 q3 => hK v w' q1 q2 (Eq.mpr (G1 _ _) q3)
                refine ⟨wanted_plain rfl, ?_⟩
                obtain ⟨ys9, hy9, st9⟩ := hb
                have e0 := h0
                have X9 := hide (show wy.heap[B]? = some (.cells #[.string pk, .bool po, .bool pb, s, .int .i64 pn, .slice (some ⟨gt, 0, none⟩) py.length ct] 31 (0, 0) : Obj) from st9.row)
                obtain ⟨_, _, _, _, _, _, _⟩ := six_cells X9.out
                go_simp
                exact hK _ _ ⟨ys9, hy9, st9⟩ (moved_refl _) rfl
              case opc_2 =>
                intro vs wy b hin hout hb hdep K hK
                have t7 : b.tmps[7]? = some (.int .i64 (jj : Int)) := (hout 7 (by decide)).trans rfl
                clear hin hout hdep
                replace hK : ∀ v w', (fun wx => ∃ ys : List Pu.LayerD, ys.length = py.length ∧ PartSt w g B l (⟨⟨pk, po, pb, pl, pn⟩, ys⟩ : Pu.PartD) s (.slice (some ⟨gt, 0, none⟩) py.length ct) wx) w' → Moved [] wy w' → (fun (v : Value) (wx : World) => v = .int .i64 (jj : Int)) v w' → K (b.put (some 49) v) w' := fun v w' q1 q2 q3 => hK v w' q1 q2 (Eq.mpr (G2 _ _) q3)
                refine ⟨wanted_plain rfl, ?_⟩
                go_simp
                exact hK _ _ hb (moved_refl _) rfl
              case opc_3 =>
                intro vs wy b hin hout hb hdep K hK
                have t0 : b.tmps[0]? = some (.pointer (some ⟨g, 0, none⟩)) := (hout 0 (by decide)).trans rfl
                clear hin hout hdep
                replace hK : ∀ v w', (fun wx => ∃ ys : List Pu.LayerD, ys.length = py.length ∧ PartSt w g B l (⟨⟨pk, po, pb, pl, pn⟩, ys⟩ : Pu.PartD) s (.slice (some ⟨gt, 0, none⟩) py.length ct) wx) w' → Moved [] wy w' → (fun (v : Value) (wx : World) => v = .pointer (some ⟨g, 0, none⟩)) v w' → K (b.put (some 50) v) w' := fun v w' q1 q2 q3 => hK v w' q1 q2 (Eq.mpr (G3 _ _) q3)
                refine ⟨wanted_plain rfl, ?_⟩
                go_simp
                exact hK _ _ hb (moved_refl _) rfl
              case opc_4 =>
                intro vs wy b hin hout hb hdep K hK
                have h3 : (fun (v : Value) (wx : World) => v = .pointer (some ⟨g, 0, none⟩)) (vs 50) wy := by
                  have h := hdep 3 (by decide)
                  rw [G3] at h
                  exact h
                dsimp only at h3
                have t50 := hin 50 (by decide)
                clear hin hout hdep
                replace hK : ∀ v w', (fun wx => ∃ ys : List Pu.LayerD, ys.length = py.length ∧ PartSt w g B l (⟨⟨pk, po, pb, pl, pn⟩, ys⟩ : Pu.PartD) s (.slice (some ⟨gt, 0, none⟩) py.length ct) wx) w' → Moved [69] wy w' → (fun (v : Value) (wx : World) => ∃ z : Int, v = .int .i64 z) v w' → K (b.put (some 51) v) w' := fun v w' q1 q2 q3 => hK v w' q1 q2 (Eq.mpr (G4 _ _) q3)
                refine ⟨wanted_plain rfl, ?_⟩
                obtain ⟨ys9, hy9, st9⟩ := hb
                have e3 := h3
                go_simp
                refine (l1Below_c g l _ _ st9.cur (by omega)).mono ?_
                rintro e wz ⟨z, rfl, _, _, hc9, hgr9⟩
                exact hK _ _ ⟨ys9, hy9, st9.draw hgs hBW hc9 hgr9⟩ (moved_draw st9.cur hc9 hgr9) ⟨z, rfl⟩
              case opc_5 =>
                intro vs wy b hin hout hb hdep K hK
                have h1 : (fun (v : Value) (wx : World) => v = .slice (some ⟨gt, 0, none⟩) py.length ct) (vs 48) wy := by
                  have h := hdep 1 (by decide)
                  rw [G1] at h
                  exact h
                dsimp only at h1
                have h2 : (fun (v : Value) (wx : World) => v = .int .i64 (jj : Int)) (vs 49) wy := by
                  have h := hdep 2 (by decide)
                  rw [G2] at h
                  exact h
                dsimp only at h2
                have t48 := hin 48 (by decide)
                have t49 := hin 49 (by decide)
                clear hin hout hdep
                replace hK : ∀ v w', (fun wx => ∃ ys : List Pu.LayerD, ys.length = py.length ∧ PartSt w g B l (⟨⟨pk, po, pb, pl, pn⟩, ys⟩ : Pu.PartD) s (.slice (some ⟨gt, 0, none⟩) py.length ct) wx) w' → Moved [] wy w' → (fun (v : Value) (wx : World) => v = .pointer (some ⟨gt, jj * 2, none⟩)) v w' → K (b.put (some 52) v) w' := fun v w' q1 q2 q3 => hK v w' q1 q2 (Eq.mpr (G5 _ _) q3)
                refine ⟨wanted_plain rfl, ?_⟩
                have e1 := h1
                have e2 := h2
                go_simp
                exact hK _ _ hb (moved_refl _) (by first | rfl | simp)
              case opc_6 =>
                intro vs wy b hin hout hb hdep K hK
                have h5 : (fun (v : Value) (wx : World) => v = .pointer (some ⟨gt, jj * 2, none⟩)) (vs 52) wy := by
                  have h := hdep 5 (by decide)
                  rw [G5] at h
                  exact h
                dsimp only at h5
                have t52 := hin 52 (by decide)
                clear hin hout hdep
                replace hK : ∀ v w', (fun wx => ∃ ys : List Pu.LayerD, ys.length = py.length ∧ PartSt w g B l (⟨⟨pk, po, pb, pl, pn⟩, ys⟩ : Pu.PartD) s (.slice (some ⟨gt, 0, none⟩) py.length ct) wx) w' → Moved [] wy w' → (fun (v : Value) (wx : World) => v = .pointer (some ⟨gt, jj * 2 + 1, none⟩)) v w' → K (b.put (some 53) v) w' := fun v w' q1 q2 q3 => hK v w' q1 q2 (Eq.mpr (G6 _ _) q3)
                refine ⟨wanted_plain rfl, ?_⟩
                have e5 := h5
                go_simp
                exact hK _ _ hb (moved_refl _) (by first | rfl | simp)
              case opc_7 =>
                intro vs wy b hin hout hb hdep K hK
                have h4 : (fun (v : Value) (wx : World) => ∃ z : Int, v = .int .i64 z) (vs 51) wy := by
                  have h := hdep 4 (by decide)
                  rw [G4] at h
                  exact h
                dsimp only at h4
                have h6 : (fun (v : Value) (wx : World) => v = .pointer (some ⟨gt, jj * 2 + 1, none⟩)) (vs 53) wy := by
                  have h := hdep 6 (by decide)
                  rw [G6] at h
                  exact h
                dsimp only at h6
                have t51 := hin 51 (by decide)
                have t53 := hin 53 (by decide)
                clear hin hout hdep
                replace hK : ∀ v w', (fun wx => ∃ ys : List Pu.LayerD, ys.length = py.length ∧ PartSt w g B l (⟨⟨pk, po, pb, pl, pn⟩, ys⟩ : Pu.PartD) s (.slice (some ⟨gt, 0, none⟩) py.length ct) wx) w' → Moved [57] wy w' → (fun (v : Value) (wx : World) => True) (vs 53) w' → K (b.put (none) v) w' := fun v w' q1 q2 q3 => hK v w' q1 q2 (Eq.mpr (G7 _ _) q3)
                refine ⟨wanted_plain rfl, ?_⟩
                obtain ⟨ys9, hy9, st9⟩ := hb
                obtain ⟨z, e4⟩ := h4
                have e6 := h6
                obtain ⟨G9, c9, x9, q1, q2, q3, q4, q5, q6, q7, q8, q9⟩ := st9.at_ (k := jj) (by show jj < ys9.length; omega)
                injection q1 with q1 q1a q1b
                injection q1 with q1
                injection q1 with q1 q1c q1d
                subst q1
                clear q1a q1b q1c q1d
                go_simp
                exact hK undef _ ⟨_, by simpa using hy9, (st9.count hgs rfl q2.out z).1⟩ (.inr ⟨gt, 57, by simp, (st9.count hgs rfl q2.out z).2⟩) trivial
            case finc =>
              intro vs wz b hin hbeq hb hall
              clear hall hin
              subst hbeq
              simp only [actAt, slots, List.foldl_cons, List.foldl_nil, List.setIfInBounds_toArray, List.set_cons_zero, List.set_cons_succ]
              obtain ⟨ys3, hy3, hS3⟩ := hb
              have hS3 := hide hS3
              have hy3 := hide hy3
              go_wp2_with fail
              refine (l1Once_c _ _ _ _ hS3.out.cur (by omega)).mono ?_; rintro e w5 ⟨q, rfl, hc5, hgr5⟩
              have hS5 := hide (hS3.out.draw hgs hBW hc5 hgr5)
              clear hc5 hgr5
              rcases q with _ | _
              · go_wp2
                go_roundw
                case rel => exact ⟨jj + 1, ys3, by omega, by go_num, hy3, hS5⟩
                case measure => simp [intOf]; omega
              · obtain ⟨G9, c9, x9, q1, q2, q3, q4, q5, q6, q7, q8, q9⟩ := hS5.out.at_ (k := jj) (by show jj < ys3.length; rw [hy3.out]; exact hlt2)
                injection q1 with q1 q1a q1b
                injection q1 with q1
                injection q1 with q1 q1c q1d
                subst q1
                clear q1a q1b q1c q1d q3 q6 q7
                have X5 := hide (show w5.heap[B]? = some (.cells #[.string pk, .bool po, .bool pb, s, .int .i64 pn, .slice (some ⟨gt, 0, none⟩) py.length ct] 31 (0, 0) : Obj) from hS5.out.row)
                obtain ⟨_, _, _, _, _, _, _⟩ := six_cells X5.out
                go_wp2
                go_roundw
                case rel => exact ⟨jj + 1, ys3.set jj ⟨x9.name, 999⟩, by omega, by go_num, (show (ys3.set jj _).length = _ by rw [List.length_set]; exact hy3.out), (hS5.out.count hgs rfl q2.out 999).1⟩
                case measure => simp [intOf]; omega
          · rcases (by cases (nm.toList == [104, 101, 97, 114, 115]) <;> simp : (nm.toList == [104, 101, 97, 114, 115]) = true ∨ (nm.toList == [104, 101, 97, 114, 115]) = false) with hn2 | hn2
            · skip
              go_upto_region 12 with fail
              rw [hw4.out]
              clear X1
              obtain ⟨G, hGdef⟩ : ∃ G : Nat → Value → World → Prop, G = (fun j v wx => match j with | 0 => (v = .pointer (some ⟨B, 5, none⟩)) | 1 => (v = .slice (some ⟨gt, 0, none⟩) py.length ct) | 2 => (v = .int .i64 (jj : Int)) | 3 => (v = .pointer (some ⟨g, 0, none⟩)) | 4 => (∃ z : Int, v = .int .i64 z) | 5 => (v = .pointer (some ⟨gt, jj * 2, none⟩)) | 6 => (v = .pointer (some ⟨gt, jj * 2 + 1, none⟩)) | 7 => (True) | _ => True) := ⟨_, rfl⟩
              have G0 : ∀ v wx, G 0 v wx = (v = .pointer (some ⟨B, 5, none⟩)) := fun v wx => (congrFun (congrFun (congrFun hGdef 0) v) wx).trans rfl
              have G1 : ∀ v wx, G 1 v wx = (v = .slice (some ⟨gt, 0, none⟩) py.length ct) := fun v wx => (congrFun (congrFun (congrFun hGdef 1) v) wx).trans rfl
              have G2 : ∀ v wx, G 2 v wx = (v = .int .i64 (jj : Int)) := fun v wx => (congrFun (congrFun (congrFun hGdef 2) v) wx).trans rfl
              have G3 : ∀ v wx, G 3 v wx = (v = .pointer (some ⟨g, 0, none⟩)) := fun v wx => (congrFun (congrFun (congrFun hGdef 3) v) wx).trans rfl
              have G4 : ∀ v wx, G 4 v wx = (∃ z : Int, v = .int .i64 z) := fun v wx => (congrFun (congrFun (congrFun hGdef 4) v) wx).trans rfl
              have G5 : ∀ v wx, G 5 v wx = (v = .pointer (some ⟨gt, jj * 2, none⟩)) := fun v wx => (congrFun (congrFun (congrFun hGdef 5) v) wx).trans rfl
              have G6 : ∀ v wx, G 6 v wx = (v = .pointer (some ⟨gt, jj * 2 + 1, none⟩)) := fun v wx => (congrFun (congrFun (congrFun hGdef 6) v) wx).trans rfl
              have G7 : ∀ v wx, G 7 v wx = (True) := fun v wx => (congrFun (congrFun (congrFun hGdef 7) v) wx).trans rfl
              have Gn : ∀ j v wx, G (j + 8) v wx = True := fun j v wx => (congrFun (congrFun (congrFun hGdef _) v) wx).trans rfl
              clear hGdef
              have firm0 : ∀ j v, Firm [] (G j v) := by
                intro j v
                match j with
                | 0 => rw [show G 0 v = (fun wx => v = .pointer (some ⟨B, 5, none⟩)) from funext (G0 v)]; exact firm_const _
                | 1 => rw [show G 1 v = (fun wx => v = .slice (some ⟨gt, 0, none⟩) py.length ct) from funext (G1 v)]; exact firm_const _
                | 2 => rw [show G 2 v = (fun wx => v = .int .i64 (jj : Int)) from funext (G2 v)]; exact firm_const _
                | 3 => rw [show G 3 v = (fun wx => v = .pointer (some ⟨g, 0, none⟩)) from funext (G3 v)]; exact firm_const _
                | 4 => rw [show G 4 v = (fun wx => ∃ z : Int, v = .int .i64 z) from funext (G4 v)]; exact firm_const _
                | 5 => rw [show G 5 v = (fun wx => v = .pointer (some ⟨gt, jj * 2, none⟩)) from funext (G5 v)]; exact firm_const _
                | 6 => rw [show G 6 v = (fun wx => v = .pointer (some ⟨gt, jj * 2 + 1, none⟩)) from funext (G6 v)]; exact firm_const _
                | 7 => rw [show G 7 v = (fun wx => True) from funext (G7 v)]; exact firm_const _
                | j + 8 => rw [show G (j + 8) v = (fun wx => True) from funext (Gn j v)]; exact firm_const _
              have firm1 : ∀ j v, Firm [69] (G j v) := by
                intro j v
                match j with
                | 0 => rw [show G 0 v = (fun wx => v = .pointer (some ⟨B, 5, none⟩)) from funext (G0 v)]; exact firm_const _
                | 1 => rw [show G 1 v = (fun wx => v = .slice (some ⟨gt, 0, none⟩) py.length ct) from funext (G1 v)]; exact firm_const _
                | 2 => rw [show G 2 v = (fun wx => v = .int .i64 (jj : Int)) from funext (G2 v)]; exact firm_const _
                | 3 => rw [show G 3 v = (fun wx => v = .pointer (some ⟨g, 0, none⟩)) from funext (G3 v)]; exact firm_const _
                | 4 => rw [show G 4 v = (fun wx => ∃ z : Int, v = .int .i64 z) from funext (G4 v)]; exact firm_const _
                | 5 => rw [show G 5 v = (fun wx => v = .pointer (some ⟨gt, jj * 2, none⟩)) from funext (G5 v)]; exact firm_const _
                | 6 => rw [show G 6 v = (fun wx => v = .pointer (some ⟨gt, jj * 2 + 1, none⟩)) from funext (G6 v)]; exact firm_const _
                | 7 => rw [show G 7 v = (fun wx => True) from funext (G7 v)]; exact firm_const _
                | j + 8 => rw [show G (j + 8) v = (fun wx => True) from funext (Gn j v)]; exact firm_const _
              have firm2 : ∀ j v, Firm [57] (G j v) := by
                intro j v
                match j with
                | 0 => rw [show G 0 v = (fun wx => v = .pointer (some ⟨B, 5, none⟩)) from funext (G0 v)]; exact firm_const _
                | 1 => rw [show G 1 v = (fun wx => v = .slice (some ⟨gt, 0, none⟩) py.length ct) from funext (G1 v)]; exact firm_const _
                | 2 => rw [show G 2 v = (fun wx => v = .int .i64 (jj : Int)) from funext (G2 v)]; exact firm_const _
                | 3 => rw [show G 3 v = (fun wx => v = .pointer (some ⟨g, 0, none⟩)) from funext (G3 v)]; exact firm_const _
                | 4 => rw [show G 4 v = (fun wx => ∃ z : Int, v = .int .i64 z) from funext (G4 v)]; exact firm_const _
                | 5 => rw [show G 5 v = (fun wx => v = .pointer (some ⟨gt, jj * 2, none⟩)) from funext (G5 v)]; exact firm_const _
                | 6 => rw [show G 6 v = (fun wx => v = .pointer (some ⟨gt, jj * 2 + 1, none⟩)) from funext (G6 v)]; exact firm_const _
                | 7 => rw [show G 7 v = (fun wx => True) from funext (G7 v)]; exact firm_const _
                | j + 8 => rw [show G (j + 8) v = (fun wx => True) from funext (Gn j v)]; exact firm_const _
              refine wp_region_absG (fun wx => ∃ ys : List Pu.LayerD, ys.length = py.length ∧ PartSt w g B l (⟨⟨pk, po, pb, pl, pn⟩, ys⟩ : Pu.PartD) s (.slice (some ⟨gt, 0, none⟩) py.length ct) wx) [47, 48, 49, 50, 51, 52, 53] (fun j => match j with | 0 => 47 | 1 => 48 | 2 => 49 | 3 => 50 | 4 => 51 | 5 => 52 | 6 => 53 | 7 => 53 | _ => 0) (fun j => match j with | 0 => [] | 1 => [0] | 2 => [] | 3 => [] | 4 => [3] | 5 => [0, 1, 2] | 6 => [0, 1, 2, 5] | 7 => [0, 1, 2, 3, 4, 5, 6] | _ => []) G (fun j => match j with | 0 => [] | 1 => [] | 2 => [] | 3 => [] | 4 => [69] | 5 => [] | 6 => [] | 7 => [57] | _ => []) 63 (by kernel_rfl) (by kernel_rfl) rfl (by decide) (⟨ys, hyl.out, hS4.out.below hgs hBW (Below.refl _ _).drew⟩) ?firmc ?stpc ?finc
              case firmc =>
                intro i j hj hnd v
                match i with
                | 0 => exact firm0 j v
                | 1 => exact firm0 j v
                | 2 => exact firm0 j v
                | 3 => exact firm0 j v
                | 4 => exact firm1 j v
                | 5 => exact firm0 j v
                | 6 => exact firm0 j v
                | 7 => exact firm2 j v
                | i + 8 => exact firm0 j v
              case stpc =>
                refine StepsFrom.cons ?opc_0 (StepsFrom.cons ?opc_1 (StepsFrom.cons ?opc_2 (StepsFrom.cons ?opc_3 (StepsFrom.cons ?opc_4 (StepsFrom.cons ?opc_5 (StepsFrom.cons ?opc_6 (StepsFrom.cons ?opc_7 (StepsFrom.nil))))))))
                case opc_0 =>
                  intro vs wy b hin hout hb hdep K hK
                  have t3 : b.tmps[3]? = some (.pointer (some ⟨B, 0, none⟩)) := (hout 3 (by decide)).trans rfl
                  clear hin hout hdep
                  replace hK : ∀ v w', (fun wx => ∃ ys : List Pu.LayerD, ys.length = py.length ∧ PartSt w g B l (⟨⟨pk, po, pb, pl, pn⟩, ys⟩ : Pu.PartD) s (.slice (some ⟨gt, 0, none⟩) py.length ct) wx) w' → Moved [] wy w' → (fun (v : Value) (wx : World) => v = .pointer (some ⟨B, 5, none⟩)) v w' → K (b.put (some 47) v) w' := fun v w' q1 q2 q3 => hK v w' q1 q2 (Eq.mpr (G0 _ _) q3)
                  refine ⟨wanted_plain rfl, ?_⟩
                  go_simp
                  exact hK _ _ hb (moved_refl _) rfl
                case opc_1 =>
                  intro vs wy b hin hout hb hdep K hK
                  have h0 : (fun (v : Value) (wx : World) => v = .pointer (some ⟨B, 5, none⟩)) (vs 47) wy := by
                    have h := hdep 0 (by decide)
                    rw [G0] at h
                    exact h
                  dsimp only at h0
                  have t47 := hin 47 (by decide)
                  clear hin hout hdep
                  replace hK : ∀ v w', (fun wx => ∃ ys : List Pu.LayerD, ys.length = py.length ∧ PartSt w g B l (⟨⟨pk, po, pb, pl, pn⟩, ys⟩ : Pu.PartD) s (.slice (some ⟨gt, 0, none⟩) py.length ct) wx) w' → Moved [] wy w' → (fun (v : Value) (wx : World) => v = .slice (some ⟨gt, 0, none⟩) py.length ct) v w' → K (b.put (some 48) v) w' := fun v w' q1 q2 q3 => hK v w' q1 q2 (Eq.mpr (G1 _ _) q3)
                  refine ⟨wanted_plain rfl, ?_⟩
                  obtain ⟨ys9, hy9, st9⟩ := hb
                  have e0 := h0
                  have X9 := hide (show wy.heap[B]? = some (.cells #[.string pk, .bool po, .bool pb, s, .int .i64 pn, .slice (some ⟨gt, 0, none⟩) py.length ct] 31 (0, 0) : Obj) from st9.row)
                  obtain ⟨_, _, _, _, _, _, _⟩ := six_cells X9.out
                  go_simp
                  exact hK _ _ ⟨ys9, hy9, st9⟩ (moved_refl _) rfl
                case opc_2 =>
                  intro vs wy b hin hout hb hdep K hK
                  have t7 : b.tmps[7]? = some (.int .i64 (jj : Int)) := (hout 7 (by decide)).trans rfl
                  clear hin hout hdep
                  replace hK : ∀ v w', (fun wx => ∃ ys : List Pu.LayerD, ys.length = py.length ∧ PartSt w g B l (⟨⟨pk, po, pb, pl, pn⟩, ys⟩ : Pu.PartD) s (.slice (some ⟨gt, 0, none⟩) py.length ct) wx) w' → Moved [] wy w' → (fun (v : Value) (wx : World) => v = .int .i64 (jj : Int)) v w' → K (b.put (some 49) v) w' := fun v w' q1 q2 q3 => hK v w' q1 q2 (Eq.mpr (G2 _ _) q3)
                  refine ⟨wanted_plain rfl, ?_⟩
                  go_simp
                  exact hK _ _ hb (moved_refl _) rfl
                case opc_3 =>
                  intro vs wy b hin hout hb hdep K hK
                  have t0 : b.tmps[0]? = some (.pointer (some ⟨g, 0, none⟩)) := (hout 0 (by decide)).trans rfl
                  clear hin hout hdep
                  replace hK : ∀ v w', (fun wx => ∃ ys : List Pu.LayerD, ys.length = py.length ∧ PartSt w g B l (⟨⟨pk, po, pb, pl, pn⟩, ys⟩ : Pu.PartD) s (.slice (some ⟨gt, 0, none⟩) py.length ct) wx) w' → Moved [] wy w' → (fun (v : Value) (wx : World) => v = .pointer (some ⟨g, 0, none⟩)) v w' → K (b.put (some 50) v) w' := fun v w' q1 q2 q3 => hK v w' q1 q2 (Eq.mpr (G3 _ _) q3)
                  refine ⟨wanted_plain rfl, ?_⟩
                  go_simp
                  exact hK _ _ hb (moved_refl _) rfl
                case opc_4 =>
                  intro vs wy b hin hout hb hdep K hK
                  have h3 : (fun (v : Value) (wx : World) => v = .pointer (some ⟨g, 0, none⟩)) (vs 50) wy := by
                    have h := hdep 3 (by decide)
                    rw [G3] at h
                    exact h
                  dsimp only at h3
                  have t50 := hin 50 (by decide)
                  clear hin hout hdep
                  replace hK : ∀ v w', (fun wx => ∃ ys : List Pu.LayerD, ys.length = py.length ∧ PartSt w g B l (⟨⟨pk, po, pb, pl, pn⟩, ys⟩ : Pu.PartD) s (.slice (some ⟨gt, 0, none⟩) py.length ct) wx) w' → Moved [69] wy w' → (fun (v : Value) (wx : World) => ∃ z : Int, v = .int .i64 z) v w' → K (b.put (some 51) v) w' := fun v w' q1 q2 q3 => hK v w' q1 q2 (Eq.mpr (G4 _ _) q3)
                  refine ⟨wanted_plain rfl, ?_⟩
                  obtain ⟨ys9, hy9, st9⟩ := hb
                  have e3 := h3
                  go_simp
                  refine (l1Below_c g l _ _ st9.cur (by omega)).mono ?_
                  rintro e wz ⟨z, rfl, _, _, hc9, hgr9⟩
                  exact hK _ _ ⟨ys9, hy9, st9.draw hgs hBW hc9 hgr9⟩ (moved_draw st9.cur hc9 hgr9) ⟨z, rfl⟩
                case opc_5 =>
                  intro vs wy b hin hout hb hdep K hK
                  have h1 : (fun (v : Value) (wx : World) => v = .slice (some ⟨gt, 0, none⟩) py.length ct) (vs 48) wy := by
                    have h := hdep 1 (by decide)
                    rw [G1] at h
                    exact h
                  dsimp only at h1
                  have h2 : (fun (v : Value) (wx : World) => v = .int .i64 (jj : Int)) (vs 49) wy := by
                    have h := hdep 2 (by decide)
                    rw [G2] at h
                    exact h
                  dsimp only at h2
                  have t48 := hin 48 (by decide)
                  have t49 := hin 49 (by decide)
                  clear hin hout hdep
                  replace hK : ∀ v w', (fun wx => ∃ ys : List Pu.LayerD, ys.length = py.length ∧ PartSt w g B l (⟨⟨pk, po, pb, pl, pn⟩, ys⟩ : Pu.PartD) s (.slice (some ⟨gt, 0, none⟩) py.length ct) wx) w' → Moved [] wy w' → (fun (v : Value) (wx : World) => v = .pointer (some ⟨gt, jj * 2, none⟩)) v w' → K (b.put (some 52) v) w' := fun v w' q1 q2 q3 => hK v w' q1 q2 (Eq.mpr (G5 _ _) q3)
                  refine ⟨wanted_plain rfl, ?_⟩
                  have e1 := h1
                  have e2 := h2
                  go_simp
                  exact hK _ _ hb (moved_refl _) (by first | rfl | simp)
                case opc_6 =>
                  intro vs wy b hin hout hb hdep K hK
                  have h5 : (fun (v : Value) (wx : World) => v = .pointer (some ⟨gt, jj * 2, none⟩)) (vs 52) wy := by
                    have h := hdep 5 (by decide)
                    rw [G5] at h
                    exact h
                  dsimp only at h5
                  have t52 := hin 52 (by decide)
                  clear hin hout hdep
                  replace hK : ∀ v w', (fun wx => ∃ ys : List Pu.LayerD, ys.length = py.length ∧ PartSt w g B l (⟨⟨pk, po, pb, pl, pn⟩, ys⟩ : Pu.PartD) s (.slice (some ⟨gt, 0, none⟩) py.length ct) wx) w' → Moved [] wy w' → (fun (v : Value) (wx : World) => v = .pointer (some ⟨gt, jj * 2 + 1, none⟩)) v w' → K (b.put (some 53) v) w' := fun v w' q1 q2 q3 => hK v w' q1 q2 (Eq.mpr (G6 _ _) q3)
                  refine ⟨wanted_plain rfl, ?_⟩
                  have e5 := h5
                  go_simp
                  exact hK _ _ hb (moved_refl _) (by first | rfl | simp)
                case opc_7 =>
                  intro vs wy b hin hout hb hdep K hK
                  have h4 : (fun (v : Value) (wx : World) => ∃ z : Int, v = .int .i64 z) (vs 51) wy := by
                    have h := hdep 4 (by decide)
                    rw [G4] at h
                    exact h
                  dsimp only at h4
                  have h6 : (fun (v : Value) (wx : World) => v = .pointer (some ⟨gt, jj * 2 + 1, none⟩)) (vs 53) wy := by
                    have h := hdep 6 (by decide)
                    rw [G6] at h
                    exact h
                  dsimp only at h6
                  have t51 := hin 51 (by decide)
                  have t53 := hin 53 (by decide)
                  clear hin hout hdep
                  replace hK : ∀ v w', (fun wx => ∃ ys : List Pu.LayerD, ys.length = py.length ∧ PartSt w g B l (⟨⟨pk, po, pb, pl, pn⟩, ys⟩ : Pu.PartD) s (.slice (some ⟨gt, 0, none⟩) py.length ct) wx) w' → Moved [57] wy w' → (fun (v : Value) (wx : World) => True) (vs 53) w' → K (b.put (none) v) w' := fun v w' q1 q2 q3 => hK v w' q1 q2 (Eq.mpr (G7 _ _) q3)
                  refine ⟨wanted_plain rfl, ?_⟩
                  obtain ⟨ys9, hy9, st9⟩ := hb
                  obtain ⟨z, e4⟩ := h4
                  have e6 := h6
                  obtain ⟨G9, c9, x9, q1, q2, q3, q4, q5, q6, q7, q8, q9⟩ := st9.at_ (k := jj) (by show jj < ys9.length; omega)
                  injection q1 with q1 q1a q1b
                  injection q1 with q1
                  injection q1 with q1 q1c q1d
                  subst q1
                  clear q1a q1b q1c q1d
                  go_simp
                  exact hK undef _ ⟨_, by simpa using hy9, (st9.count hgs rfl q2.out z).1⟩ (.inr ⟨gt, 57, by simp, (st9.count hgs rfl q2.out z).2⟩) trivial
              case finc =>
                intro vs wz b hin hbeq hb hall
                clear hall hin
                subst hbeq
                simp only [actAt, slots, List.foldl_cons, List.foldl_nil, List.setIfInBounds_toArray, List.set_cons_zero, List.set_cons_succ]
                obtain ⟨ys3, hy3, hS3⟩ := hb
                have hS3 := hide hS3
                have hy3 := hide hy3
                go_wp2_with fail
                refine (l1Once_c _ _ _ _ hS3.out.cur (by omega)).mono ?_; rintro e w5 ⟨q, rfl, hc5, hgr5⟩
                have hS5 := hide (hS3.out.draw hgs hBW hc5 hgr5)
                clear hc5 hgr5
                rcases q with _ | _
                · go_wp2
                  go_roundw
                  case rel => exact ⟨jj + 1, ys3, by omega, by go_num, hy3, hS5⟩
                  case measure => simp [intOf]; omega
                · obtain ⟨G9, c9, x9, q1, q2, q3, q4, q5, q6, q7, q8, q9⟩ := hS5.out.at_ (k := jj) (by show jj < ys3.length; rw [hy3.out]; exact hlt2)
                  injection q1 with q1 q1a q1b
                  injection q1 with q1
                  injection q1 with q1 q1c q1d
                  subst q1
                  clear q1a q1b q1c q1d q3 q6 q7
                  have X5 := hide (show w5.heap[B]? = some (.cells #[.string pk, .bool po, .bool pb, s, .int .i64 pn, .slice (some ⟨gt, 0, none⟩) py.length ct] 31 (0, 0) : Obj) from hS5.out.row)
                  obtain ⟨_, _, _, _, _, _, _⟩ := six_cells X5.out
                  go_wp2
                  go_roundw
                  case rel => exact ⟨jj + 1, ys3.set jj ⟨x9.name, 999⟩, by omega, by go_num, (show (ys3.set jj _).length = _ by rw [List.length_set]; exact hy3.out), (hS5.out.count hgs rfl q2.out 999).1⟩
                  case measure => simp [intOf]; omega
            · go_wp2
              rw [hw4.out]
              go_roundw
              case rel => exact ⟨jj + 1, ys, by omega, by go_num, hyl, hS4⟩
              case measure => simp [intOf]; omega
        · have X1 := hide (show wr.heap[B]? = some (.cells #[.string pk, .bool po, .bool pb, s, .int .i64 pn, .slice At py.length ct] 31 (0, 0) : Obj) from hS.out.row)
          have Y1 := hide (show wr.heap[w.heap.size]? = some partNil from hS.out.res)
          obtain ⟨As, cs, hs⟩ : ∃ A c, s = .slice A pl.length c := OwnL.shape hS.out.cells
          subst hs
          obtain ⟨_, _, _, _, _, _, _⟩ := six_cells X1.out
          obtain ⟨d0, d1, d2, d3, d4, d5, df⟩ := six_cells Y1.out
          go_wp2
          refine bodyPost_ret (v := .agg #[.string pk, .bool po, .bool pb, .slice As pl.length cs, .int .i64 pn, .slice At py.length ct]) (by simp [results, Try.results42, go_sem, d0, d1, d2, d3, d4, d5]) rfl ?_
          obtain ⟨z1, z2, z3, z4⟩ := hS.out.ret hgs (.string pk) (.bool po) (.bool pb) (.slice As pl.length cs) (.int .i64 pn) (.slice At py.length ct) rfl
          exact ⟨(⟨⟨pk, po, pb, pl, pn⟩, ys⟩ : Pu.PartD), _, _, rfl, z1, z2, ⟨hD.out.1, by show ys.length ≤ 3; rw [hyl.out]; omega⟩, z3, z4⟩
end Go.Proofs.Ytnabpefjcgehiaa
