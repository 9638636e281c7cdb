/- FnRecipes: for every input the law returns true, and its arguments read afterwards as they read before. No condition besides those of the statement itself. -/
import Derived.Test.YtnabpefjcgehiaaM0
import Derived.Test.YtnabpefjcgehiaaDrawPart
import Derived.Test.YtnabpefjcgehiaaPartLaws
import Derived.Test.YtnabpefjcgehiaaTexts
import Derived.Test.YtnabpefjcgehiaaMakePart
import Derived.Test.YtnabpefjcgehiaaRecFace
import Derived.Test.YtnabpefjcgehiaaIsPart
import Derived.Test.YtnabpefjcgehiaaM2
import Derived.Test.YtnabpefjcgehiaaLay
import Derived.Test.YtnabpefjcgehiaaM1
import Derived.ShutString
namespace Go.Proofs.Ytnabpefjcgehiaa.fnRecipes
open Go.ChangeShapes Go.WideShapes Go.ChangeAt Go.RowKit
set_option maxRecDepth 100000
open Go.ChangeMaps (open_string shut_string)
set_option linter.unusedVariables false

theorem own : ownKnob Try.prog.godebug = none := by kernel_rfl

set_option maxHeartbeats 8000000 in
/-- The walk: the Go text returns true. -/
theorem walk (w : World) (v0 : Value) (a0 : List UInt8) (hv0 : RdL w 1 byteEn v0 a0) :
    Calls Try.prog 3 #[v0] w fun e w' => e = .returned (.bool true) ∧ Below w.heap.size w w' := by
  have H0 := hide hv0
  clear hv0
  rcases hbig : decide (4096 < a0.length) with _ | _
  · have hl : a0.length ≤ 4096 := by simpa using hbig
    go_enter Try.func3, Try.ntmps3
    go_wp2_with fail
    refine (big_c _ _ _ H0.out).mono ?_; rintro e w' ⟨rfl, rfl⟩
    rw [hbig]
    go_wp2_with fail
    refine (drawMakePart_c _ _ _ H0.out hl).mono ?_; rintro e W1 ⟨u, m, rfl, o1, hm6, hD, BW⟩
    obtain ⟨A, c, rfl, _, _, _⟩ := RdL.open_ o1
    have OM := hide o1
    have HZ : Hid (∀ y ∈ m, y.size ≤ maxLen) := fun y hy => by have := hD y hy; unfold maxLen; omega
    clear o1 hD hbig
    obtain ⟨⟨⟨pk, po, pb, pl, pn⟩, py⟩, HP⟩ : ∃ P, Hid (Pu.makeP m = P) := ⟨_, rfl⟩
    obtain ⟨⟨rc, rv, rt, rw_, rh⟩, HR⟩ : ∃ R, Hid (Pu.makeR m = R) := ⟨_, rfl⟩
    obtain ⟨F, HF⟩ : ∃ F, Hid (Pu.recF m = F) := ⟨_, rfl⟩
    go_wp2_with fail
    refine (iMakePart_c _ m _ OM.out HZ.out (by omega)).mono ?_; rintro e W2 ⟨⟨s, t, rfl, os, ot, _⟩, b⟩
    rw [HP.out] at os ot ⊢
    rw [HR.out]
    dsimp only at os ot
    obtain ⟨S, d, rfl⟩ := os.shape
    obtain ⟨T, f, rfl⟩ := ot.shape
    unfold partV replyV
    dsimp only
    have OM := hide (show RdL W2 1 strEn (.slice A m.length c) m from RdL.below OM.out b (Nat.le_refl _))
    have BW := below_then BW b
    have OS := hide (show RdL W2 2 cellEn (.slice S pl.length d) pl from os.rd (fun _ => rfl))
    have OT := hide (show RdL W2 2 layerEn (.slice T py.length f) py from ot.rd (fun _ => rfl))
    clear os ot
    obtain ⟨W3, hW3⟩ : ∃ W, Hid (((W2.alloc (.cells #[.string pk, .bool po, .bool pb, .slice S pl.length d, .int .i64 pn, .slice T py.length f] 31 : Obj)).alloc (.cells #[.int .i64 rc, .int .i64 rv, .string rt, .int .i64 rw_, .int .i64 rh] 33 : Obj)) = W) := ⟨_, rfl⟩
    have b : Below W2.heap.size W2 W3 := by rw [← hW3.out]; exact below_alloc (below_alloc (Below.refl _ _) _) _
    have OM := hide (show RdL W3 1 strEn (.slice A m.length c) m from RdL.below OM.out b (Nat.le_refl _))
    have OS := hide (show RdL W3 2 cellEn (.slice S pl.length d) pl from RdL.below OS.out b (Nat.le_refl _))
    have OT := hide (show RdL W3 2 layerEn (.slice T py.length f) py from RdL.below OT.out b (Nat.le_refl _))
    have BW := below_then BW b
    have RP := hide (show W3.heap[W2.heap.size]? = some (.cells #[.string pk, .bool po, .bool pb, .slice S pl.length d, .int .i64 pn, .slice T py.length f] 31 (0, 0) : Obj) by rw [← hW3.out]; exact heap_old (by simp) (heap_new rfl))
    have RR := hide (show W3.heap[W2.heap.size + 1]? = some (.cells #[.int .i64 rc, .int .i64 rv, .string rt, .int .i64 rw_, .int .i64 rh] 33 (0, 0) : Obj) by rw [← hW3.out]; exact heap_new (by simp))
    have EP := hide (show ((W2.alloc (.cells #[.string pk, .bool po, .bool pb, .slice S pl.length d, .int .i64 pn, .slice T py.length f] 31 : Obj)).alloc (.cells #[.int .i64 rc, .int .i64 rv, .string rt, .int .i64 rw_, .int .i64 rh] 33 : Obj)).heap[W2.heap.size]? = some (.cells #[.string pk, .bool po, .bool pb, .slice S pl.length d, .int .i64 pn, .slice T py.length f] 31 (0, 0) : Obj) by rw [hW3.out]; exact RP.out)
    have ER := hide (show ((W2.alloc (.cells #[.string pk, .bool po, .bool pb, .slice S pl.length d, .int .i64 pn, .slice T py.length f] 31 : Obj)).alloc (.cells #[.int .i64 rc, .int .i64 rv, .string rt, .int .i64 rw_, .int .i64 rh] 33 : Obj)).heap[W2.heap.size + 1]? = some (.cells #[.int .i64 rc, .int .i64 rv, .string rt, .int .i64 rw_, .int .i64 rh] 33 (0, 0) : Obj) by rw [hW3.out]; exact RR.out)
    obtain ⟨_, _, _, _, _, _, _⟩ := six_cells EP.out
    obtain ⟨_, _, _, _, _, _⟩ := five_cells ER.out
    obtain ⟨_, _, _, _, _, _, _⟩ := six_cells RP.out
    obtain ⟨_, _, _, _, _, _⟩ := five_cells RR.out
    go_wp2_with fail
    rw [hW3.out]
    refine (iRecipeFace_c _ m _ OM.out HZ.out (by omega)).mono ?_; rintro e W4 ⟨rfl, b⟩
    have RP := hide (show W4.heap[W2.heap.size]? = some (.cells #[.string pk, .bool po, .bool pb, .slice S pl.length d, .int .i64 pn, .slice T py.length f] 31 (0, 0) : Obj) from row_on b RP.out)
    have RR := hide (show W4.heap[W2.heap.size + 1]? = some (.cells #[.int .i64 rc, .int .i64 rv, .string rt, .int .i64 rw_, .int .i64 rh] 33 (0, 0) : Obj) from row_on b RR.out)
    have OM := hide (show RdL W4 1 strEn (.slice A m.length c) m from RdL.below OM.out b (Nat.le_refl _))
    have OS := hide (show RdL W4 2 cellEn (.slice S pl.length d) pl from RdL.below OS.out b (Nat.le_refl _))
    have OT := hide (show RdL W4 2 layerEn (.slice T py.length f) py from RdL.below OT.out b (Nat.le_refl _))
    have BW := below_then BW b
    rw [HF.out]
    rcases (by cases Pu.recOk m <;> simp : Pu.recOk m = false ∨ Pu.recOk m = true) with hok | hok
    · obtain ⟨g1, g2, g3⟩ := Pu.make_none hok
      rw [HP.out] at g1
      rw [HF.out] at g2
      rw [HR.out] at g3
      dsimp only at g3
      have hbc : (rc == 0) = false := by simp [g3]
      subst g2
      rw [hok]
      have G1 := hide g1
      clear g1
      obtain ⟨_, _, _, _, _, _, _⟩ := six_cells RP.out
      obtain ⟨_, _, _, _, _, _⟩ := five_cells RR.out
      go_wp2_with fail
      refine (iSamePart_c (⟨⟨pk, po, pb, pl, pn⟩, py⟩ : Pu.PartD) Pu.noPart _ _ _ _ _ OS.out OT.out (RdL.nil _ _ _) (RdL.nil _ _ _)).mono ?_; rintro e W5 ⟨rfl, b⟩
      have RP := hide (show W5.heap[W2.heap.size]? = some (.cells #[.string pk, .bool po, .bool pb, .slice S pl.length d, .int .i64 pn, .slice T py.length f] 31 (0, 0) : Obj) from row_on b RP.out)
      have RR := hide (show W5.heap[W2.heap.size + 1]? = some (.cells #[.int .i64 rc, .int .i64 rv, .string rt, .int .i64 rw_, .int .i64 rh] 33 (0, 0) : Obj) from row_on b RR.out)
      have OM := hide (show RdL W5 1 strEn (.slice A m.length c) m from RdL.below OM.out b (Nat.le_refl _))
      have OS := hide (show RdL W5 2 cellEn (.slice S pl.length d) pl from RdL.below OS.out b (Nat.le_refl _))
      have OT := hide (show RdL W5 2 layerEn (.slice T py.length f) py from RdL.below OT.out b (Nat.le_refl _))
      have BW := below_then BW b
      have hsm : Pu.samePart (⟨⟨pk, po, pb, pl, pn⟩, py⟩ : Pu.PartD) Pu.noPart = true := by rw [G1.out]; simp [Pu.samePart, sameCore_refl]
      rw [hsm]
      obtain ⟨_, _, _, _, _, _, _⟩ := six_cells RP.out
      obtain ⟨_, _, _, _, _, _⟩ := five_cells RR.out
      go_wp2
      go_ret
      exact ⟨rfl, BW⟩
    · obtain ⟨g1, g2, g3, g4, g5⟩ := Pu.make_good hok
      rw [HP.out] at g1 g2 g3
      rw [HR.out] at g3 g4 g5
      rw [HF.out] at g4
      dsimp only at g3 g4 g5
      subst g5 g4
      rw [hok]
      have G1 := hide g1
      have G2 := hide g2
      have G3 := hide g3.symm
      replace hok := hide hok
      clear g1 g2 g3
      obtain ⟨kk, hkm, hcore⟩ := Pu.make_core hok.out
      rw [HP.out] at hcore
      injection hcore with e1 e2 e3 e4 e5
      have hwc : Hid (CoreD.wf (⟨pk, po, pb, pl, pn⟩ : Pu.CoreD)) := ⟨by show pk.size ≤ maxLen; rw [e1]; exact HZ.out kk hkm, by show (Lit.int .i64 pn).wf = true; rw [e5]; rfl⟩
      have hwl : Hid (∀ c ∈ pl, CellD.wf c) := by intro c hc; rw [e4] at hc; cases hc
      have hpl : pl.length ≤ 16777216 := by rw [e4]; exact Nat.zero_le _
      clear e1 e2 e3 e4 e5
      have hp3 : py.length ≤ 3 := by have h := G1.out; simp only [Pu.partB, Bool.and_eq_true, decide_eq_true_eq] at h; exact h.1.2
      have hm1 : 0 < m.length := List.length_pos_of_mem hkm
      obtain ⟨_, _, _, _, _, _, _⟩ := six_cells RP.out
      obtain ⟨_, _, _, _, _, _⟩ := five_cells RR.out
      go_wp2_with fail
      refine (iIsPart_c (⟨⟨pk, po, pb, pl, pn⟩, py⟩ : Pu.PartD) _ _ _ hwc.out ⟨OS.out, hwl.out⟩ OT.out).mono ?_; rintro e W5 ⟨rfl, b⟩
      have RP := hide (show W5.heap[W2.heap.size]? = some (.cells #[.string pk, .bool po, .bool pb, .slice S pl.length d, .int .i64 pn, .slice T py.length f] 31 (0, 0) : Obj) from row_on b RP.out)
      have RR := hide (show W5.heap[W2.heap.size + 1]? = some (.cells #[.int .i64 0, .int .i64 F, .string rt, .int .i64 rw_, .int .i64 rh] 33 (0, 0) : Obj) from row_on b RR.out)
      have OM := hide (show RdL W5 1 strEn (.slice A m.length c) m from RdL.below OM.out b (Nat.le_refl _))
      have OS := hide (show RdL W5 2 cellEn (.slice S pl.length d) pl from RdL.below OS.out b (Nat.le_refl _))
      have OT := hide (show RdL W5 2 layerEn (.slice T py.length f) py from RdL.below OT.out b (Nat.le_refl _))
      have BW := below_then BW b
      rw [G1.out]
      obtain ⟨_, _, _, _, _, _, _⟩ := six_cells RP.out
      obtain ⟨_, _, _, _, _, _⟩ := five_cells RR.out
      go_wp2_with fail
      refine (iRecipeOf_c (⟨⟨pk, po, pb, pl, pn⟩, py⟩ : Pu.PartD) _ _ _ OT.out (by show py.length ≤ 16777216; omega)).mono ?_; rintro e W6 ⟨vr, rfl, oR, b⟩
      rw [G2.out] at oR
      have ORv := hide (show RdStr W6 vr m from oR.rd (fun _ => rfl))
      clear oR
      have RP := hide (show W6.heap[W2.heap.size]? = some (.cells #[.string pk, .bool po, .bool pb, .slice S pl.length d, .int .i64 pn, .slice T py.length f] 31 (0, 0) : Obj) from row_on b RP.out)
      have RR := hide (show W6.heap[W2.heap.size + 1]? = some (.cells #[.int .i64 0, .int .i64 F, .string rt, .int .i64 rw_, .int .i64 rh] 33 (0, 0) : Obj) from row_on b RR.out)
      have OM := hide (show RdL W6 1 strEn (.slice A m.length c) m from RdL.below OM.out b (Nat.le_refl _))
      have OS := hide (show RdL W6 2 cellEn (.slice S pl.length d) pl from RdL.below OS.out b (Nat.le_refl _))
      have OT := hide (show RdL W6 2 layerEn (.slice T py.length f) py from RdL.below OT.out b (Nat.le_refl _))
      have BW := below_then BW b
      obtain ⟨_, _, _, _, _, _, _⟩ := six_cells RP.out
      obtain ⟨_, _, _, _, _, _⟩ := five_cells RR.out
      go_wp2_with fail
      refine (texts_c _ _ m _ ORv.out OM.out).mono ?_; rintro e W7 ⟨rfl, b⟩
      have RP := hide (show W7.heap[W2.heap.size]? = some (.cells #[.string pk, .bool po, .bool pb, .slice S pl.length d, .int .i64 pn, .slice T py.length f] 31 (0, 0) : Obj) from row_on b RP.out)
      have RR := hide (show W7.heap[W2.heap.size + 1]? = some (.cells #[.int .i64 0, .int .i64 F, .string rt, .int .i64 rw_, .int .i64 rh] 33 (0, 0) : Obj) from row_on b RR.out)
      have OM := hide (show RdL W7 1 strEn (.slice A m.length c) m from RdL.below OM.out b (Nat.le_refl _))
      have OS := hide (show RdL W7 2 cellEn (.slice S pl.length d) pl from RdL.below OS.out b (Nat.le_refl _))
      have OT := hide (show RdL W7 2 layerEn (.slice T py.length f) py from RdL.below OT.out b (Nat.le_refl _))
      have BW := below_then BW b
      obtain ⟨_, _, _, _, _, _, _⟩ := six_cells RP.out
      obtain ⟨_, _, _, _, _, _⟩ := five_cells RR.out
      go_wp2_with fail
      refine (iFaceOf_c (⟨⟨pk, po, pb, pl, pn⟩, py⟩ : Pu.PartD) _ _ _ OT.out).mono ?_; rintro e W8 ⟨rfl, b⟩
      have RP := hide (show W8.heap[W2.heap.size]? = some (.cells #[.string pk, .bool po, .bool pb, .slice S pl.length d, .int .i64 pn, .slice T py.length f] 31 (0, 0) : Obj) from row_on b RP.out)
      have RR := hide (show W8.heap[W2.heap.size + 1]? = some (.cells #[.int .i64 0, .int .i64 F, .string rt, .int .i64 rw_, .int .i64 rh] 33 (0, 0) : Obj) from row_on b RR.out)
      have OM := hide (show RdL W8 1 strEn (.slice A m.length c) m from RdL.below OM.out b (Nat.le_refl _))
      have OS := hide (show RdL W8 2 cellEn (.slice S pl.length d) pl from RdL.below OS.out b (Nat.le_refl _))
      have OT := hide (show RdL W8 2 layerEn (.slice T py.length f) py from RdL.below OT.out b (Nat.le_refl _))
      have BW := below_then BW b
      rw [show Pu.faceAt (⟨⟨pk, po, pb, pl, pn⟩, py⟩ : Pu.PartD) (⟨⟨pk, po, pb, pl, pn⟩, py⟩ : Pu.PartD).layers.length = F from G3.out]
      obtain ⟨_, _, _, _, _, _, _⟩ := six_cells RP.out
      obtain ⟨_, _, _, _, _, _⟩ := five_cells RR.out
      go_wp2_with fail
      obtain ⟨_, _, e3, _, _, hA⟩ := RdL.open_ OM.out
      injection e3 with e3 _ e4
      subst e3 e4
      have HA := hide hA
      clear hA
      have BWH := hide BW
      clear BW
      go_loopw [8] (fun i wr => ∃ k : Nat, 1 ≤ k ∧ k ≤ m.length ∧ i = .int .i64 k ∧ Below W8.heap.size W8 wr) (fun i _ => m.length - (intOf i).toNat)
      case atStart => exact ⟨1, by omega, by omega, rfl, Below.refl _ _⟩
      case round =>
        obtain ⟨k, hk1, hk, rfl, hb⟩ := hrel
        by_cases hlt : k < m.length
        · obtain ⟨g, o, rfl, hg, HC⟩ := HA.out.at_ (by omega)
          obtain ⟨x, HX, h0⟩ := str_get HC hb hlt
          have hkk : k - 1 + 1 = k := by omega
          have hmt := Pu.make_take (i := k - 1) (x := x) hok.out (by rw [hkk]; exact HX.out)
          rw [hkk] at hmt
          have Q1 := hide hmt.1
          have Q2 := hide hmt.2.1
          have Q3 := hide hmt.2.2
          clear hmt hkk
          obtain ⟨GF, hGF⟩ : ∃ GF, Hid (Pu.recF (m.take k) = GF) := ⟨_, rfl⟩
          obtain ⟨NL, hNL⟩ : ∃ NL, Hid (Pu.layN x.toList = NL) := ⟨_, rfl⟩
          rw [hGF.out, hNL.out] at Q3
          have hgk : g < wr.heap.size := Nat.lt_of_lt_of_le hg hb.size
          go_wp2_with fail
          refine (iRecipeFace_c _ (m.take k) _ (rd_take (RdL.below OM.out hb (Nat.le_refl _)) (by omega)) (fun y hy => HZ.out y (List.mem_of_mem_take hy)) (by rw [List.length_take]; omega)).mono ?_; rintro e WA ⟨rfl, b2⟩
          rw [Q1.out, hGF.out]
          have hb2 := below_then hb b2
          replace h0 := (b2.cell (p := ⟨g, _, none⟩) hgk).trans h0
          go_wp2_with fail
          refine (iLayerNeeds_c x _).mono ?_; rintro e w' ⟨rfl, rfl⟩
          rw [Q2.out, hNL.out]
          go_wp2_with fail
          refine (iOffers_c GF NL _).mono ?_; rintro e w' ⟨rfl, rfl⟩
          rw [Q3.out]
          go_wp2
          go_roundw
          case rel => exact ⟨k + 1, by omega, by omega, by go_num, hb2⟩
          case measure => simp [intOf]; omega
        · go_wp2
          go_ret
          exact ⟨rfl, below_then BWH.out hb⟩
  · go_enter Try.func3, Try.ntmps3
    go_wp2_with fail
    refine (big_c _ _ _ H0.out).mono ?_; rintro e w' ⟨rfl, rfl⟩
    rw [hbig]
    go_wp2
    go_ret
    exact ⟨rfl, Below.refl _ _⟩

set_option maxRecDepth 100000 in
theorem lifted (os : Os) (started : os.Started) (H : Type) (enc : TypeId × Value → H) :
    ReturnsInHanded {} Try.checked os 3 .any (Rows.fnRecipesSpec.pre6 enc Try.prog Try.f3 Rows.fnRecipesRow.domain false) (Rows.fnRecipesSpec.post enc Try.prog Try.f3 false true false false) := by
  refine returnsInHanded_of_change (C := Try.checked) own started (by kernel_rfl) Try.func3
    (ChangeSpec.witness6 (enc := enc) (C := Try.checked) false ⟨#[], #[.slice none 0 0], []⟩ 8 (by kernel_rfl) (by kernel_rfl) (by kernel_rfl) (by kernel_rfl)) ?_
  intro W base args ds gs before hval0 hW _ _
  have hval : ∀ (j : Nat) t v, Try.f3.params[j]? = some t → args[j]? = some v → Value.okWide Try.prog W .any base t v := hval0
  have hW' := hW
  obtain ⟨p, q, hA0, hV, rfl, hfz, hnd⟩ := hW
  have hA : DataW.TrodAll enc Try.prog W 0 (fun _ => true) true Try.f3.params.toList args.toList ds p := hA0
  rw [Try.params3] at hA hval
  obtain ⟨v0, vs0, d0, ds0, p0, q0, hargs, rfl, rfl, h0, r0⟩ := trodAll_cons hA
  obtain ⟨rfl, rfl, rfl⟩ := trodAll_nil r0
  obtain rfl : args = #[v0] := by cases args; simp_all
  obtain ⟨rfl, rfl⟩ := trodVars_none hV
  obtain ⟨a0, hv0⟩ := open_bytes (hval 0 22 v0 rfl rfl) h0
  refine (walk W v0 a0 hv0).mono fun e W' ⟨he, hg⟩ => ?_
  subst he
  exact ⟨_, rfl, law_post (tb := 4) (by kernel_rfl) (by kernel_rfl) hW' hg rfl Try.underlying4 rfl rfl rfl rfl⟩

theorem over : Rows.fnRecipesRow.holds Try.pinned (OpenSpec.ofChange Rows.fnRecipesSpec) :=
  OpenClaim.holds_of_wide 3 Try.f3 rfl rfl rfl rfl rfl rfl rfl ⟨rfl, rfl, rfl, rfl, rfl⟩ rfl rfl rfl rfl rfl (by kernel_rfl) Try.func3 (by kernel_rfl)
    (of_decide_eq_true (by kernel_rfl)) (by unfold Func.isWrapper; first | (rw [if_pos (by decide +kernel)]; kernel_rfl) | (rw [if_neg (by decide +kernel)]; exact ⟨rfl, rfl⟩))
    (fun os started H enc _ => lifted os started H enc)

/-- The statement. -/
theorem proved : Rows.FnRecipesSaid :=
  over
#print axioms proved
end Go.Proofs.Ytnabpefjcgehiaa.fnRecipes
