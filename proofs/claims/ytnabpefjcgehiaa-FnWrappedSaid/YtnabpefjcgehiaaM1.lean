/- Merged texts of this repo: Core, CopyCore, Core3, EqReply. -/
import Derived.Test.YtnabpefjcgehiaaM0
import Derived.Test.YtnabpefjcgehiaaFace
import Derived.Deep.RegionHeld3
import Derived.Test.YtnabpefjcgehiaaCopy
import Derived.Deep.QuietTactic
import Derived.BigQuiet
/- Contracts: cores. -/
namespace Go.Proofs.Ytnabpefjcgehiaa
open Go.ChangeShapes Go.WideShapes Go.ChangeAt Go.RowKit
set_option maxRecDepth 100000
def coreV (p : Pu.CoreD) (s : Value) : Value := .agg #[.string p.kind, .bool p.on, .bool p.broken, s, .int .i64 p.count]
def CoreD.wf (p : Pu.CoreD) : Prop := p.kind.size ≤ maxLen ∧ (Lit.int .i64 p.count).wf = true
def RdCore (w : World) (v : Value) (p : Pu.CoreD) : Prop := CoreD.wf p ∧ ∃ s, v = coreV p s ∧ RdCells w s p.cells
end Go.Proofs.Ytnabpefjcgehiaa
/- Contracts: copies of cores (as in CopyPart.tpl, for a seat that has no parts). -/
namespace Go.Proofs.Ytnabpefjcgehiaa
open Go.ChangeShapes Go.WideShapes Go.ChangeAt Go.RowKit
set_option maxRecDepth 100000
/-- a new row that the call laid whole -/
theorem own_made {α : Type} {w : World} {e : TypeId} {size : Nat} {en : α → List Value} (l : List α) {n : Nat} (hn : n = l.length) (hs : ∀ x, (en x).length = size) (hm : n ≤ maxLen) :
    OwnL (w.alloc (.cells (l.flatMap en).toArray e)) w.heap.size e size en (.slice (some ⟨w.heap.size, 0, none⟩) n n) l := by
  subst hn
  have hfl := flat_len hs l
  refine ⟨hfl, .inr ⟨w.heap.size, l.length, (l.flatMap en).toArray, rfl, Nat.le_refl _, heap_alloc_new w _, Nat.le_refl _, hm, by simpa using hfl, ?_⟩⟩
  rw [← hfl]
  exact List.take_length
set_option maxHeartbeats 1000000 in
theorem iCopyCore_c (p : Pu.CoreD) (s : Value) (w : World) (hs : RdL w 2 cellEn s p.cells) (hl : p.cells.length ≤ 16777216) :
    Calls Try.prog 49 #[coreV p s] w fun e w' => ∃ s', e = .returned (coreV p s') ∧ OwnL w' w.heap.size 74 2 cellEn s' p.cells ∧ Below w.heap.size w w' := by
  obtain ⟨i0, hi, hz0, hz1, hz2⟩ := info_parts info_cell
  have HB : Below w.heap.size w ((w.alloc (.cells #[.string p.kind, .bool p.on, .bool p.broken, s, .int .i64 p.count] 28 : Obj)).alloc (.cells #[.string ⟨#[]⟩, .bool false, .bool false, .slice none 0 0, .int .i64 0] 28 : Obj)) := below_alloc (below_alloc (Below.refl _ _) _) _
  have HH := hide HB
  have hr := RdL.below hs HB (Nat.le_refl _)
  have hown : OwnL ((w.alloc (.cells #[.string p.kind, .bool p.on, .bool p.broken, s, .int .i64 p.count] 28 : Obj)).alloc (.cells #[.string ⟨#[]⟩, .bool false, .bool false, .slice none 0 0, .int .i64 0] 28 : Obj)) (w.heap.size + 1 + 1) 74 2 cellEn (.slice none 0 0) [] := OwnL.nil _ _ _ _ _
  have hbz : w.heap.size + 1 + 1 ≤ (((w.alloc (.cells #[.string p.kind, .bool p.on, .bool p.broken, s, .int .i64 p.count] 28 : Obj)).alloc (.cells #[.string ⟨#[]⟩, .bool false, .bool false, .slice none 0 0, .int .i64 0] 28 : Obj))).heap.size := by simp
  have y0 : (((w.alloc (.cells #[.string p.kind, .bool p.on, .bool p.broken, s, .int .i64 p.count] 28 : Obj)).alloc (.cells #[.string ⟨#[]⟩, .bool false, .bool false, .slice none 0 0, .int .i64 0] 28 : Obj))).heap[w.heap.size]? = some (.cells #[.string p.kind, .bool p.on, .bool p.broken, s, .int .i64 p.count] 28 : Obj) := heap_old (by simp) (heap_new rfl)
  have y1 : (((w.alloc (.cells #[.string p.kind, .bool p.on, .bool p.broken, s, .int .i64 p.count] 28 : Obj)).alloc (.cells #[.string ⟨#[]⟩, .bool false, .bool false, .slice none 0 0, .int .i64 0] 28 : Obj))).heap[w.heap.size + 1]? = some (.cells #[.string ⟨#[]⟩, .bool false, .bool false, .slice none 0 0, .int .i64 0] 28 : Obj) := heap_new (by simp)
  have Y0 := hide y0
  have Y1 := hide y1
  clear hs y0 y1
  unfold coreV
  go_enter Try.func49, Try.ntmps49
  go_wp2_with (at_builtin; go_must (refine copy_law rfl _ _ 26 (by exact rfl) (w.heap.size + 1 + 1) 74 i0 _ 2 24 Try.underlying26 hi hz0 hz1 hz2 rfl (by decide) cellEn (fun _ => rfl) one_cell (.slice none 0 0) s p.cells (by exact rfl) hown (by exact rfl) hr hbz (by omega) (by decide) ?_); intro v1 w1 hown1 hg1;
                    have Z0 := (hg1.block w.heap.size (by simp <;> omega) (by simp [Value.ownBlock] <;> omega)).trans Y0.out;
                    have Z1 := (hg1.block (w.heap.size + 1) (by simp <;> omega) (by simp [Value.ownBlock] <;> omega)).trans Y1.out;
                    have B1 : Below w.heap.size w w1 := HH.out.grown hg1 HH.out.size (fun k hk => by have h := (hown.lt hk).1; omega);
                    obtain ⟨A', c', rfl⟩ := hown1.shape;
                    obtain ⟨a0, a1, a2, a3, a4, af⟩ := five_cells Z0;
                    obtain ⟨b0, b1, b2, b3, b4, bf⟩ := five_cells Z1;
                    have HO := hide hown1;
                    clear hown1 hg1 Z0 Z1)
  have HB2 := (((((B1.setCell (p := ⟨w.heap.size, 3, none⟩) (by simp) (Value.slice A' p.cells.length c')).setCell (p := ⟨w.heap.size + 1, 0, none⟩) (by simp) (Value.string p.kind)).setCell (p := ⟨w.heap.size + 1, 1, none⟩) (by simp) (Value.bool p.on)).setCell (p := ⟨w.heap.size + 1, 2, none⟩) (by simp) (Value.bool p.broken)).setCell (p := ⟨w.heap.size + 1, 3, none⟩) (by simp) (Value.slice A' p.cells.length c')).setCell (p := ⟨w.heap.size + 1, 4, none⟩) (by simp) (Value.int .i64 p.count)
  refine bodyPost_ret (v := .agg #[.string p.kind, .bool p.on, .bool p.broken, .slice A' p.cells.length c', .int .i64 p.count]) (by simp [results, Try.results49, go_sem, b0, b1, b2, b3, b4]) rfl ⟨_, rfl, ?_, HB2⟩
  refine OwnL.mono (b' := w.heap.size) (base := w.heap.size + 1 + 1) ?_ (by omega)
  have HO' := HO.out
  iterate 6 refine OwnL.set ?_ (by simp <;> omega) _
  exact HO'
set_option maxHeartbeats 1000000 in
theorem sCopyCore_c (p : Pu.CoreD) (s : Value) (w : World) (hs : RdL w 2 cellEn s p.cells) (hl : p.cells.length ≤ 16777216) :
    Calls Try.prog 68 #[coreV p s] w fun e w' => ∃ s', e = .returned (coreV p s') ∧ OwnL w' w.heap.size 74 2 cellEn s' p.cells ∧ Below w.heap.size w w' := by
  obtain ⟨i0, hi, hz0, hz1, hz2⟩ := info_parts info_cell
  have HB : Below w.heap.size w (((w.alloc (.cells #[.string p.kind, .bool p.on, .bool p.broken, s, .int .i64 p.count] 28 : Obj)).alloc (.cells #[.string ⟨#[]⟩, .bool false, .bool false, .slice none 0 0, .int .i64 0] 28 : Obj)).alloc (.cells #[] 74 : Obj)) := below_alloc (below_alloc (below_alloc (Below.refl _ _) _) _) _
  have HH := hide HB
  have hr := RdL.below hs HB (Nat.le_refl _)
  have hown : OwnL (((w.alloc (.cells #[.string p.kind, .bool p.on, .bool p.broken, s, .int .i64 p.count] 28 : Obj)).alloc (.cells #[.string ⟨#[]⟩, .bool false, .bool false, .slice none 0 0, .int .i64 0] 28 : Obj)).alloc (.cells #[] 74 : Obj)) (w.heap.size + 1 + 1) 74 2 cellEn (.slice (some ⟨w.heap.size + 1 + 1, 0, none⟩) 0 0) [] := by have h := own_made (w := ((w.alloc (.cells #[.string p.kind, .bool p.on, .bool p.broken, s, .int .i64 p.count] 28 : Obj)).alloc (.cells #[.string ⟨#[]⟩, .bool false, .bool false, .slice none 0 0, .int .i64 0] 28 : Obj))) (e := 74) (en := cellEn) (size := 2) [] (n := 0) rfl (fun _ => rfl) (Nat.zero_le _); rw [show (((w.alloc (.cells #[.string p.kind, .bool p.on, .bool p.broken, s, .int .i64 p.count] 28 : Obj)).alloc (.cells #[.string ⟨#[]⟩, .bool false, .bool false, .slice none 0 0, .int .i64 0] 28 : Obj))).heap.size = w.heap.size + 1 + 1 by simp] at h; exact h
  have hbz : w.heap.size + 1 + 1 ≤ ((((w.alloc (.cells #[.string p.kind, .bool p.on, .bool p.broken, s, .int .i64 p.count] 28 : Obj)).alloc (.cells #[.string ⟨#[]⟩, .bool false, .bool false, .slice none 0 0, .int .i64 0] 28 : Obj)).alloc (.cells #[] 74 : Obj))).heap.size := by simp
  have y0 : ((((w.alloc (.cells #[.string p.kind, .bool p.on, .bool p.broken, s, .int .i64 p.count] 28 : Obj)).alloc (.cells #[.string ⟨#[]⟩, .bool false, .bool false, .slice none 0 0, .int .i64 0] 28 : Obj)).alloc (.cells #[] 74 : Obj))).heap[w.heap.size]? = some (.cells #[.string p.kind, .bool p.on, .bool p.broken, s, .int .i64 p.count] 28 : Obj) := heap_old (by simp <;> omega) (heap_old (by simp) (heap_new rfl))
  have y1 : ((((w.alloc (.cells #[.string p.kind, .bool p.on, .bool p.broken, s, .int .i64 p.count] 28 : Obj)).alloc (.cells #[.string ⟨#[]⟩, .bool false, .bool false, .slice none 0 0, .int .i64 0] 28 : Obj)).alloc (.cells #[] 74 : Obj))).heap[w.heap.size + 1]? = some (.cells #[.string ⟨#[]⟩, .bool false, .bool false, .slice none 0 0, .int .i64 0] 28 : Obj) := heap_old (by simp) (heap_new (by simp))
  have Y0 := hide y0
  have Y1 := hide y1
  clear hs y0 y1
  unfold coreV
  go_enter Try.func68, Try.ntmps68
  go_wp2_with (at_builtin; go_must (refine copy_law rfl _ _ 26 (by exact rfl) (w.heap.size + 1 + 1) 74 i0 _ 2 24 Try.underlying26 hi hz0 hz1 hz2 rfl (by decide) cellEn (fun _ => rfl) one_cell (.slice (some ⟨w.heap.size + 1 + 1, 0, none⟩) 0 0) s p.cells (by exact rfl) hown (by exact rfl) hr hbz (by omega) (by decide) ?_); intro v1 w1 hown1 hg1;
                    have Z0 := (hg1.block w.heap.size (by simp <;> omega) (by simp [Value.ownBlock] <;> omega)).trans Y0.out;
                    have Z1 := (hg1.block (w.heap.size + 1) (by simp <;> omega) (by simp [Value.ownBlock] <;> omega)).trans Y1.out;
                    have B1 : Below w.heap.size w w1 := HH.out.grown hg1 HH.out.size (fun k hk => by have h := (hown.lt hk).1; omega);
                    obtain ⟨A', c', rfl⟩ := hown1.shape;
                    obtain ⟨a0, a1, a2, a3, a4, af⟩ := five_cells Z0;
                    obtain ⟨b0, b1, b2, b3, b4, bf⟩ := five_cells Z1;
                    have HO := hide hown1;
                    clear hown1 hg1 Z0 Z1)
  have HB2 := (((((B1.setCell (p := ⟨w.heap.size, 3, none⟩) (by simp) (Value.slice A' p.cells.length c')).setCell (p := ⟨w.heap.size + 1, 0, none⟩) (by simp) (Value.string p.kind)).setCell (p := ⟨w.heap.size + 1, 1, none⟩) (by simp) (Value.bool p.on)).setCell (p := ⟨w.heap.size + 1, 2, none⟩) (by simp) (Value.bool p.broken)).setCell (p := ⟨w.heap.size + 1, 3, none⟩) (by simp) (Value.slice A' p.cells.length c')).setCell (p := ⟨w.heap.size + 1, 4, none⟩) (by simp) (Value.int .i64 p.count)
  refine bodyPost_ret (v := .agg #[.string p.kind, .bool p.on, .bool p.broken, .slice A' p.cells.length c', .int .i64 p.count]) (by simp [results, Try.results68, go_sem, b0, b1, b2, b3, b4]) rfl ⟨_, rfl, ?_, HB2⟩
  refine OwnL.mono (b' := w.heap.size) (base := w.heap.size + 1 + 1) ?_ (by omega)
  have HO' := HO.out
  iterate 6 refine OwnL.set ?_ (by simp <;> omega) _
  exact HO'
end Go.Proofs.Ytnabpefjcgehiaa
/- Contracts: cores, 3: SameCore. -/
namespace Go.Proofs.Ytnabpefjcgehiaa
open Go.ChangeShapes Go.WideShapes Go.ChangeAt Go.RowKit
set_option maxRecDepth 100000
def Pu.sameCore (p q : Pu.CoreD) : Bool := p.kind.toList == q.kind.toList && p.on == q.on && p.broken == q.broken && p.count == q.count && (p.cells.map Pu.cellKey == q.cells.map Pu.cellKey)
theorem Pu.sameCore_false {p q : Pu.CoreD} (h : ¬ (p.kind.toList = q.kind.toList ∧ p.on = q.on ∧ p.broken = q.broken ∧ p.count = q.count ∧ p.cells.length = q.cells.length)) : Pu.sameCore p q = false := by
  rcases hs : Pu.sameCore p q
  · rfl
  · simp only [Pu.sameCore, Bool.and_eq_true, beq_iff_eq] at hs
    exact absurd ⟨hs.1.1.1.1, hs.1.1.1.2, hs.1.1.2, hs.1.2, by simpa using congrArg List.length hs.2⟩ h
set_option maxHeartbeats 1000000 in
theorem iSameCore_c (p q : Pu.CoreD) (s t : Value) (w : World) (hs : RdL w 2 cellEn s p.cells) (ht : RdL w 2 cellEn t q.cells) :
    Calls Try.prog 24 #[coreV p s, coreV q t] w fun e w' => e = .returned (.bool (Pu.sameCore p q)) ∧ Below w.heap.size w w' := by
  unfold coreV
  obtain ⟨A, c, rfl, hlc, hcm, hA⟩ := hs.open_
  obtain ⟨B, d, rfl, hld, hdm, hB⟩ := ht.open_
  have HA := hide hA
  have HB := hide hB
  clear hA hB hs ht
  have HW : Below w.heap.size w ((w.alloc (.cells #[.string p.kind, .bool p.on, .bool p.broken, .slice A p.cells.length c, .int .i64 p.count] 28)).alloc (.cells #[.string q.kind, .bool q.on, .bool q.broken, .slice B q.cells.length d, .int .i64 q.count] 28)) := below_alloc (below_alloc (Below.refl _ _) _) _
  by_cases hd : p.kind.toList = q.kind.toList ∧ p.on = q.on ∧ p.broken = q.broken ∧ p.count = q.count ∧ p.cells.length = q.cells.length
  · have HE : Hid (Pu.sameCore p q = (p.cells.map Pu.cellKey == q.cells.map Pu.cellKey)) := by
      rw [Hid, Pu.sameCore, hd.1, hd.2.1, hd.2.2.1, hd.2.2.2.1]; simp
    obtain ⟨e1, e2, e3, e4, e5⟩ := hd
    have e1' : (p.kind.toList == q.kind.toList) = true := by simp [e1]
    rw [e2, e3, e4, e5] at HW
    rw [e2, e3, e4, e5]
    have hln : q.cells.length ≤ 9223372036854775807 := by omega
    have HL := hide e5
    clear e2 e3 e4 e5 e1
    go_enter Try.func24, Try.ntmps24
    go_wp2
    go_loopw [44] (fun i wr => ∃ k : Nat, k ≤ q.cells.length ∧ i = .int .i64 k ∧ Hid ((p.cells.map Pu.cellKey).take k = (q.cells.map Pu.cellKey).take k) ∧ Below (w.heap.size + 1 + 1) ((w.alloc (.cells #[.string p.kind, .bool q.on, .bool q.broken, .slice A q.cells.length c, .int .i64 q.count] 28)).alloc (.cells #[.string q.kind, .bool q.on, .bool q.broken, .slice B q.cells.length d, .int .i64 q.count] 28)) wr) (fun i _ => q.cells.length - (intOf i).toNat)
    case atStart => exact ⟨0, by omega, rfl, rfl, Below.refl _ _⟩
    case round =>
      obtain ⟨k, hk, rfl, HT, hb⟩ := hrel
      by_cases hlt : k < q.cells.length
      · obtain ⟨g, o, rfl, hg, HC⟩ := HA.out.at_ (by rw [HL.out]; omega)
        obtain ⟨g', o', rfl, hg', HC'⟩ := HB.out.at_ (by omega)
        have hbw : Below w.heap.size w wr := HW.trans (hb.mono (by omega))
        obtain ⟨x, HX, h0, h1⟩ := cell_get HC hbw (k := k) (by rw [HL.out]; exact hlt)
        obtain ⟨y, HY, h2, h3⟩ := cell_get HC' hbw hlt
        obtain ⟨_, _, _, _, _, _⟩ := five_cells ((hb.block w.heap.size (by omega)).trans (heap_old (by simp) (heap_new rfl)))
        obtain ⟨_, _, _, _, _, _⟩ := five_cells ((hb.block (w.heap.size + 1) (by omega)).trans (heap_new (by simp)))
        have HB2 := hide hbw
        have HB3 := hide hb
        clear hb hbw HW
        go_wp2
        have hq := fun w' => neq_cell x.key y.key x.val y.val w'
        have hgu := guard_cell
        go_quiet (fail)
        go_wp2
        · go_ret
          have hk' : Pu.cellKey x ≠ Pu.cellKey y := fun e => by
            simp only [Pu.cellKey, Prod.mk.injEq] at e
            have hor := ‹_ ∨ _›
            simp [e.1, e.2] at hor
          exact ⟨ret_bool (by rw [HE.out]; simpa using Pu.map_ne HX.out HY.out hk'), below_drewN HB2.out _⟩
        · go_roundw
          case rel =>
            have hor := ‹_ ∧ _›
            simp only [Bool.not_eq_false', beq_iff_eq] at hor
            exact ⟨k + 1, by omega, by go_num, Pu.take_map HT.out HX.out HY.out (by rw [Pu.cellKey, Pu.cellKey, hor.1, hor.2]), below_drewN HB3.out _⟩
          case measure => simp [intOf]; omega
      · obtain rfl : k = q.cells.length := by omega
        go_wp2
        go_ret
        exact ⟨ret_bool (by have h := HT.out; rw [HE.out]; rw [List.take_of_length_le (by simp [HL.out]), List.take_of_length_le (by simp)] at h; simp [h]), HW.trans (hb.mono (by omega))⟩
  · go_enter Try.func24, Try.ntmps24
    go_wp2 <;> first
      | (go_ret; exact ⟨ret_bool (Pu.sameCore_false hd).symm, below_alloc (below_alloc (Below.refl _ _) _) _⟩)
      | exact absurd ⟨by assumption, by assumption, by assumption, by assumption, by have := ‹(_ != _) = false›; simp at this; omega⟩ hd
end Go.Proofs.Ytnabpefjcgehiaa
/- '==' on replies and on calls that are the same. -/
namespace Go.Proofs.Ytnabpefjcgehiaa
open Go.ChangeShapes Go.WideShapes Go.ChangeAt Go.RowKit
set_option maxRecDepth 100000
theorem sameCore_refl (p : Pu.CoreD) : Pu.sameCore p p = true := by simp [Pu.sameCore]
theorem eqi_reply (c v wa h : Int) (t t' : ByteArray) (ht : t.toList = t'.toList) (w : World) :
    (Op.equalIn 10000 33 (.agg #[.int .i64 c, .int .i64 v, .string t, .int .i64 wa, .int .i64 h]) (.agg #[.int .i64 c, .int .i64 v, .string t', .int .i64 wa, .int .i64 h])).run Try.prog w = .ok true w := by
  have h1 : Try.prog.stoodInHeld 33 = false := by kernel_rfl
  have h2 : (Try.prog.fieldsOf 33).toList.map (fun f => (f.name, f.type, f.offset)) = [("Code", 3, 0), ("Value", 3, 1), ("Text", 9, 2), ("Want", 3, 3), ("Had", 3, 4)] := by kernel_rfl
  have h3 : Try.prog.underlying 33 = some (.struct (Try.prog.fieldsOf 33)) := by kernel_rfl
  have h4 : Try.prog.underlying 9 = some .string := Try.underlying9
  have h5 : Try.prog.underlying 3 = some (.int .i64) := Try.underlying3
  have h6 : Try.prog.plainKey 9 = true := by kernel_rfl
  have h7 : Try.prog.plainKey 3 = true := by kernel_rfl
  rw [show (10000 : Nat) = 9998 + 1 + 1 from rfl, run_equalIn_agg _ _ _ _ _ h3 h1]
  generalize (Try.prog.fieldsOf 33).toList = fs at h2
  match fs, h2 with
  | [f0, f1, f2, f3, f4], h2 =>
    simp only [List.map_cons, List.map_nil, List.cons.injEq, Prod.mk.injEq, and_true] at h2
    obtain ⟨⟨a1, a2, a3⟩, ⟨b1, b2, b3⟩, ⟨c1, c2, c3⟩, ⟨d1, d2, d3⟩, e1, e2, e3⟩ := h2
    have p0 : ∀ t, (part 3 #[.int .i64 c, .int .i64 v, .string t, .int .i64 wa, .int .i64 h] 0).run Try.prog w = .ok (.int .i64 c) w := fun t => run_part_plain w h7 rfl
    have p1 : ∀ t, (part 3 #[.int .i64 c, .int .i64 v, .string t, .int .i64 wa, .int .i64 h] 1).run Try.prog w = .ok (.int .i64 v) w := fun t => run_part_plain w h7 rfl
    have p2 : ∀ t, (part 9 #[.int .i64 c, .int .i64 v, .string t, .int .i64 wa, .int .i64 h] 2).run Try.prog w = .ok (.string t) w := fun t => run_part_plain w h6 rfl
    have p3 : ∀ t, (part 3 #[.int .i64 c, .int .i64 v, .string t, .int .i64 wa, .int .i64 h] 3).run Try.prog w = .ok (.int .i64 wa) w := fun t => run_part_plain w h7 rfl
    have p4 : ∀ t, (part 3 #[.int .i64 c, .int .i64 v, .string t, .int .i64 wa, .int .i64 h] 4).run Try.prog w = .ok (.int .i64 h) w := fun t => run_part_plain w h7 rfl
    have r : (t.toList == t'.toList) = true := by simp [ht]
    simp [Op.eqFields, a1, a2, a3, b1, b2, b3, c1, c2, c3, d1, d2, d3, e1, e2, e3, p0, p1, p2, p3, p4, r, run_equalIn_int _ _ _ _ _ _ _ h5, run_equalIn_string _ _ _ _ _ h4, Result.andThen_ok]
  | [], h2 => simp at h2
  | [_], h2 => simp at h2
  | [_, _], h2 => simp at h2
  | [_, _, _], h2 => simp at h2
  | [_, _, _, _], h2 => simp at h2
  | _ :: _ :: _ :: _ :: _ :: _ :: _, h2 => simp at h2
theorem eql_reply (c v wa h : Int) (t t' : ByteArray) (ht : t.toList = t'.toList) (w : World) : (binOp .eql 33 (.agg #[.int .i64 c, .int .i64 v, .string t, .int .i64 wa, .int .i64 h]) (.agg #[.int .i64 c, .int .i64 v, .string t', .int .i64 wa, .int .i64 h])).run Try.prog w = .ok (.bool true) w := by
  rw [run_eql_struct, eqi_reply _ _ _ _ _ _ ht]; rfl
theorem neq_reply (c v wa h : Int) (t t' : ByteArray) (ht : t.toList = t'.toList) (w : World) : (binOp .neq 33 (.agg #[.int .i64 c, .int .i64 v, .string t, .int .i64 wa, .int .i64 h]) (.agg #[.int .i64 c, .int .i64 v, .string t', .int .i64 wa, .int .i64 h])).run Try.prog w = .ok (.bool false) w := by
  rw [run_neq_struct, eqi_reply _ _ _ _ _ _ ht]; rfl
theorem guard_reply : Try.prog.eqGuardType Try.prog.depth 33 = false := by kernel_rfl
end Go.Proofs.Ytnabpefjcgehiaa
