/- Contracts: a core is called again and again. Written by wip/tools/callsgen.py. -/
import Derived.Test.YtllmcnmongaahaaGreatDoorM6
import Derived.Test.YtllmcnmongaahaaGreatDoorM0
import Derived.Test.YtllmcnmongaahaaGreatDoorM3
import Derived.Test.YtllmcnmongaahaaGreatDoorM1
namespace Go.Proofs.YtllmcnmongaahaaGreatDoor
open Go.ChangeShapes Go.WideShapes Go.ChangeAt Go.RowKit
set_option maxRecDepth 100000
set_option linter.unusedVariables false
theorem call_get {w wr : World} {g o : Nat} {l : List Pu.CallD} (h : Hid (RdFrom w 4 callEn g o l)) (hb : Below w.heap.size w wr) {k : Nat} (hk : k < l.length) :
    ∃ x, Hid (l[k]? = some x) ∧ wr.cell? ⟨g, o + k * 4, none⟩ = some (.string x.method) ∧ wr.cell? ⟨g, o + k * 4 + 1, none⟩ = some (.string x.key) ∧ wr.cell? ⟨g, o + k * 4 + 2, none⟩ = some (.int .i64 x.value) ∧ wr.cell? ⟨g, o + k * 4 + 3, none⟩ = some (.string x.text) := by
  obtain ⟨x, hx, hc⟩ := h.out.get hb hk
  exact ⟨x, hx, hc 0 _ rfl, hc 1 _ rfl, hc 2 _ rfl, hc 3 _ rfl⟩
theorem one_reply (r : Pu.ReplyD) : ∀ u ∈ replyEn r, u.oneCell' = true := by simp [replyEn, Value.oneCell']
theorem info_reply : (Tryz.prog.info? 33).map (fun i => (i.zero, i.size, i.bytes)) = some (some (.agg #[.int .i64 0, .int .i64 0, .string ByteArray.empty, .int .i64 0, .int .i64 0]), 5, 48) := by kernel_rfl
/-- what a core that was called again and again is bounded by -/
def Pu.Along (p q : Pu.CoreD) : Prop := (Pu.coreB p = true ∧ Pu.coreB q = true ∧ q.kind = p.kind) ∨ (Pu.coreB p = false ∧ q = p)
theorem Pu.along_step {p q : Pu.CoreD} (x : Pu.CallD) (h : Pu.Along p q) : Pu.Along p (Pu.callF q x).1 := by
  rcases h with ⟨h1, h2, h3⟩ | ⟨h1, rfl⟩
  · obtain ⟨g1, g2, _⟩ := Pu.callF_good (x := x) h2
    exact .inl ⟨h1, g1, g2.trans h3⟩
  · exact .inr ⟨h1, by rw [Pu.callF_bad (by rw [h1]; rfl)]⟩
theorem Pu.along_wf {p q : Pu.CoreD} (h : Pu.Along p q) (hw : CoreD.wf p) (hc : ∀ c ∈ p.cells, CellD.wf c) (hl : p.cells.length ≤ 1048576) : CoreD.wf q ∧ (∀ c ∈ q.cells, CellD.wf c) ∧ q.cells.length ≤ 1048576 := by
  rcases h with ⟨h1, h2, h3⟩ | ⟨h1, rfl⟩
  · obtain ⟨_, g1, g2, g3, g4⟩ := good_of h2
    exact ⟨⟨by rw [h3]; exact hw.1, WalkArith.wf_i64 (by omega)⟩, g4, by omega⟩
  · exact ⟨hw, hc, hl⟩
theorem Pu.calls_stop {q : Pu.CoreD} {x : Pu.CallD} {r : List Pu.CallD} (h : (Pu.callF q x).2.code = 1) : Pu.callsF q (x :: r) = ((Pu.callF q x).1, [(Pu.callF q x).2]) := by
  rw [Pu.callsF, if_pos (by simp [h])]
theorem Pu.calls_go {q : Pu.CoreD} {x : Pu.CallD} {r : List Pu.CallD} (h : ¬ (Pu.callF q x).2.code = 1) : Pu.callsF q (x :: r) = ((Pu.callsF (Pu.callF q x).1 r).1, (Pu.callF q x).2 :: (Pu.callsF (Pu.callF q x).1 r).2) := by
  rw [Pu.callsF, if_neg (by simpa using h)]
theorem OwnL.blockType {α : Type} {w : World} {base : Nat} {e : TypeId} {size : Nat} {en : α → List Value} {v : Value} {l : List α} (h : OwnL w base e size en v l) {j : Nat} (hv : v.ownBlock = some j) : ∃ cs, w.heap[j]? = some (.cells cs e (0, 0)) := by
  obtain ⟨_, h2⟩ := h
  rcases h2 with ⟨rfl, _⟩ | ⟨g2, cap, cur, rfl, _, hb, _⟩
  · cases hv
  · have e1 : g2 = j := Option.some.inj hv
    subst e1
    exact ⟨_, hb⟩
set_option maxHeartbeats 4000000 in
theorem sCallCores_c (p : Pu.CoreD) (s t : Value) (l : List Pu.CallD) (w : World) (hw : CoreD.wf p) (hs : RdCells w s p.cells) (hl : p.cells.length ≤ 1048576) (ht : RdL w 4 callEn t l) (hx : ∀ x ∈ l, CallD.wf x ∧ x.text.size ≤ 1048576) (hll : l.length ≤ 1048576) :
    Calls Tryz.prog 22 #[coreV p s, t] w fun e w' => ∃ s' u, e = .returned (.tuple #[coreV (Pu.callsF p l).1 s', u]) ∧ OwnL w' w.heap.size 63 2 cellEn s' (Pu.callsF p l).1.cells ∧ OwnL w' w.heap.size 33 5 replyEn u (Pu.callsF p l).2 ∧ Below w.heap.size w w' := by
  obtain ⟨i0, hi, hz0, hz1, hz2⟩ := info_parts info_reply
  have HC := hide hs.2
  have HWF := hide hw
  have HS := hide hs.1
  have HXS := hide hx
  clear hs hx hw
  obtain ⟨B, cB, rfl, hlc, hcm, hB⟩ := ht.open_
  have HB := hide hB
  clear hB ht
  unfold coreV
  go_enter Tryz.func22, Tryz.ntmps22
  have ba : Below w.heap.size w ((w.alloc (.cells #[.string p.kind, .bool p.on, .bool p.broken, s, .int .i64 p.count] 31 : Obj)).alloc (.cells #[.string ⟨#[]⟩, .bool false, .bool false, .slice none 0 0, .int .i64 0] 31 : Obj)) := below_alloc (below_alloc (Below.refl _ _) _) _
  obtain ⟨_, _, _, _, _, _⟩ := five_cells (show ((w.alloc (.cells #[.string p.kind, .bool p.on, .bool p.broken, s, .int .i64 p.count] 31 : Obj)).alloc (.cells #[.string ⟨#[]⟩, .bool false, .bool false, .slice none 0 0, .int .i64 0] 31 : Obj)).heap[w.heap.size]? = some (.cells #[.string p.kind, .bool p.on, .bool p.broken, s, .int .i64 p.count] 31 (0, 0) : Obj) from heap_old (by simp) (heap_new rfl))
  have RZ0 : ((w.alloc (.cells #[.string p.kind, .bool p.on, .bool p.broken, s, .int .i64 p.count] 31 : Obj)).alloc (.cells #[.string ⟨#[]⟩, .bool false, .bool false, .slice none 0 0, .int .i64 0] 31 : Obj)).heap[w.heap.size + 1]? = some (.cells #[.string ⟨#[]⟩, .bool false, .bool false, .slice none 0 0, .int .i64 0] 31 (0, 0) : Obj) := heap_new (by simp)
  go_wp2_with fail
  refine (sCopyCore_c p s _ (RdL.below HS.out ba (Nat.le_refl _)) (by omega)).mono ?_; rintro e w1 ⟨s1, rfl, o1, b1⟩
  have RZ1 := hide (row_on b1 RZ0)
  have c1 := below_then ba b1
  have o1 := OwnL.mono o1 ba.size
  obtain ⟨A1, k1, rfl⟩ := o1.shape
  unfold coreV
  have O1 := hide o1
  have hz1a : w.heap.size + 1 < w1.heap.size := (Array.getElem?_eq_some_iff.1 RZ1.out).1
  clear o1 RZ0
  have hmk : OwnL ((w1.alloc (.cells #[.string p.kind, .bool p.on, .bool p.broken, .slice A1 p.cells.length k1, .int .i64 p.count] 31 : Obj)).alloc (.cells #[] 33 : Obj)) (w1.alloc (.cells #[.string p.kind, .bool p.on, .bool p.broken, .slice A1 p.cells.length k1, .int .i64 p.count] 31 : Obj)).heap.size 33 5 replyEn (.slice (some ⟨(w1.alloc (.cells #[.string p.kind, .bool p.on, .bool p.broken, .slice A1 p.cells.length k1, .int .i64 p.count] 31 : Obj)).heap.size, 0, none⟩) 0 0) ([] : List Pu.ReplyD) := World.ownsRow_made (w1.alloc (.cells #[.string p.kind, .bool p.on, .bool p.broken, .slice A1 p.cells.length k1, .int .i64 p.count] 31 : Obj)) #[] 0 (Nat.le_refl _) (Nat.zero_le _) rfl
  rw [show (w1.alloc (.cells #[.string p.kind, .bool p.on, .bool p.broken, .slice A1 p.cells.length k1, .int .i64 p.count] 31 : Obj)).heap.size = w1.heap.size + 1 by simp] at hmk
  obtain ⟨w2, hw2⟩ : ∃ W, Hid (((w1.alloc (.cells #[.string p.kind, .bool p.on, .bool p.broken, .slice A1 p.cells.length k1, .int .i64 p.count] 31 : Obj)).alloc (.cells #[] 33 : Obj)) = W) := ⟨_, rfl⟩
  have c2 : Below w.heap.size w w2 := by rw [← hw2.out]; exact below_alloc (below_alloc c1 _) _
  have b2 : Below w1.heap.size w1 w2 := by rw [← hw2.out]; exact below_alloc (below_alloc (Below.refl _ _) _) _
  have R2 := hide (show w2.heap[w1.heap.size]? = some (.cells #[.string p.kind, .bool p.on, .bool p.broken, .slice A1 p.cells.length k1, .int .i64 p.count] 31 (0, 0) : Obj) by rw [← hw2.out]; exact heap_old (by simp) (heap_new rfl))
  have O2 := hide (show OwnL w2 w.heap.size 63 2 cellEn (.slice A1 p.cells.length k1) p.cells from OwnL.below O1.out b2 (Nat.le_refl _))
  have U2 := hide (show OwnL w2 w.heap.size 33 5 replyEn (.slice (some ⟨w1.heap.size + 1, 0, none⟩) 0 0) ([] : List Pu.ReplyD) by rw [← hw2.out]; exact OwnL.mono hmk (by have := c1.size; omega))
  have RZ2 := hide (row_on b2 RZ1.out)
  have hwb : w.heap.size < w1.heap.size := by omega
  have hwc : w1.heap.size < w2.heap.size := (Array.getElem?_eq_some_iff.1 R2.out).1
  clear b2 O1 RZ1 ba b1 c1
  go_wp2_with fail
  rw [hw2.out]
  go_loopw [7, 17] (fun u i wr => ∃ (k : Nat) (q : Pu.CoreD) (rs : List Pu.ReplyD) (sv : Value), k ≤ l.length ∧ i = .int .i64 k ∧ Hid (Pu.Along p q) ∧ rs.length ≤ k ∧ Hid (Pu.callsF p l = ((Pu.callsF q (l.drop k)).1, rs ++ (Pu.callsF q (l.drop k)).2)) ∧ Hid (wr.heap[w1.heap.size]? = some (.cells #[.string q.kind, .bool q.on, .bool q.broken, sv, .int .i64 q.count] 31 (0, 0) : Obj)) ∧ Hid (OwnL wr w.heap.size 63 2 cellEn sv q.cells) ∧ Hid (OwnL wr w.heap.size 33 5 replyEn u rs) ∧ Hid (wr.heap[w.heap.size + 1]? = some (.cells #[.string ⟨#[]⟩, .bool false, .bool false, .slice none 0 0, .int .i64 0] 31 (0, 0) : Obj)) ∧ Below w.heap.size w wr ∧ w2.heap.size ≤ wr.heap.size) (fun _ i _ => l.length - (intOf i).toNat)
  case atStart => exact ⟨0, p, [], _, by omega, rfl, by rcases hp : Pu.coreB p with _ | _; exact .inr ⟨hp, rfl⟩; exact .inl ⟨hp, hp, rfl⟩, Nat.le_refl _, by rw [Hid, List.drop_zero]; rfl, R2.out, O2.out, U2.out, RZ2.out, c2, Nat.le_refl _⟩
  case round =>
    obtain ⟨k, q, rs, sv, hk, rfl, HA, hrs, HF, RQ, OQ, OU, RZ, hb, hsz⟩ := hrel
    obtain ⟨A3, k3, rfl⟩ := OQ.out.shape
    obtain ⟨A4, k4, rfl⟩ := OU.out.shape
    obtain ⟨_, _, _, _, _, _⟩ := five_cells RQ.out
    by_cases hlt : k < l.length
    · skip
      obtain ⟨g, o, rfl, hg, HCB⟩ := HB.out.at_ (by omega)
      obtain ⟨x, HX, h0, h1, h2, h3⟩ := call_get HCB hb hlt
      have hxm := HXS.out x (List.mem_of_getElem? HX.out)
      have hwx := hide hxm.1
      have htx := hide hxm.2
      clear hxm
      obtain ⟨qw, qc, qn⟩ := Pu.along_wf HA.out HWF.out HC.out hl
      have QW := hide qw
      have QC := hide qc
      clear qw qc
      have HD := hide (dropL HX)
      rw [HD.out] at HF
      obtain ⟨⟨⟨k1_, o1_, b1_, l1, n1⟩, ⟨c1, v1, t1, wa1, h1_⟩⟩, HR⟩ : ∃ R : Pu.CoreD × Pu.ReplyD, Hid (Pu.callF q x = R) := ⟨_, rfl⟩
      have HA2 := hide (Pu.along_step x HA.out)
      rw [HR.out] at HA2
      have HB2 := hide hb
      have bx : Below w.heap.size w (wr.alloc (.cells #[.string x.method, .string x.key, .int .i64 x.value, .string x.text] 37 : Obj)) := below_alloc hb _
      have bxr : Below wr.heap.size wr (wr.alloc (.cells #[.string x.method, .string x.key, .int .i64 x.value, .string x.text] 37 : Obj)) := below_alloc (Below.refl _ _) _
      obtain ⟨_, _, _, _, _, _⟩ := five_cells (row_on bxr RQ.out)
      go_wp2_with fail
      refine (sCallCore_x q x _ _ k1_ t1 o1_ b1_ l1 n1 c1 v1 wa1 h1_ QW.out hwx.out ⟨RdL.below (OQ.out.rd (fun _ => rfl)) bxr (Nat.le_refl _), QC.out⟩ (by omega) htx.out HR).mono ?_; rintro e w3 ⟨A5, k5, rfl, o5, b3⟩
      have b3r := below_then bxr b3
      have R3 := hide (row_on b3r RQ.out)
      have Z3 := hide (row_on b3r RZ.out)
      have o5 := hide (OwnL.mono o5 bx.size)
      have U3 := hide (OwnL.below OU.out b3r (Nat.le_refl _))
      have c3 := below_then bx b3
      have hs3 := b3r.size
      clear b3 bx bxr b3r hb
      have b4 : Below w3.heap.size w3 ((w3.alloc (.cells #[.string k1_, .bool o1_, .bool b1_, .slice A5 l1.length k5, .int .i64 n1] 31 : Obj)).alloc (.cells #[.int .i64 c1, .int .i64 v1, .string t1, .int .i64 wa1, .int .i64 h1_] 33 : Obj)) := below_alloc (below_alloc (Below.refl _ _) _) _
      have R4 := row_on b4 R3.out
      have hst := store5 (.string k1_) (.bool o1_) (.bool b1_) (.slice A5 l1.length k5) (.int .i64 n1) R4 rfl
      obtain ⟨W5, hW5⟩ : ∃ W, Hid (((((((w3.alloc (.cells #[.string k1_, .bool o1_, .bool b1_, .slice A5 l1.length k5, .int .i64 n1] 31 : Obj)).alloc (.cells #[.int .i64 c1, .int .i64 v1, .string t1, .int .i64 wa1, .int .i64 h1_] 33 : Obj)).setCell ⟨w1.heap.size, 0, none⟩ (.string k1_)).setCell ⟨w1.heap.size, 1, none⟩ (.bool o1_)).setCell ⟨w1.heap.size, 2, none⟩ (.bool b1_)).setCell ⟨w1.heap.size, 3, none⟩ (.slice A5 l1.length k5)).setCell ⟨w1.heap.size, 4, none⟩ (.int .i64 n1) = W) := ⟨_, rfl⟩
      obtain ⟨hst1, hst2⟩ := hst
      rw [hW5.out] at hst1 hst2
      have hmv := hide (show Moved [31] ((w3.alloc (.cells #[.string k1_, .bool o1_, .bool b1_, .slice A5 l1.length k5, .int .i64 n1] 31 : Obj)).alloc (.cells #[.int .i64 c1, .int .i64 v1, .string t1, .int .i64 wa1, .int .i64 h1_] 33 : Obj)) W5 from .inr ⟨_, 31, by simp, hst2⟩)
      have R5 := hide hst1
      have U5 := hide (firm_own (by decide) _ _ hmv.out (OwnL.below U3.out b4 (Nat.le_refl _)))
      have O5 := hide (firm_own (by decide) _ _ hmv.out (OwnL.below o5.out b4 (Nat.le_refl _)))
      obtain ⟨_, _, _, _, _, hgr⟩ := hst2
      have hs4 : ((w3.alloc (.cells #[.string k1_, .bool o1_, .bool b1_, .slice A5 l1.length k5, .int .i64 n1] 31 : Obj)).alloc (.cells #[.int .i64 c1, .int .i64 v1, .string t1, .int .i64 wa1, .int .i64 h1_] 33 : Obj)).heap.size = w3.heap.size + 1 + 1 := by simp
      have Z5 := hide ((hgr.block _ (by omega) (by intro h9; have := Option.some.inj h9; omega)).trans (row_on b4 Z3.out))
      have E10 := hide ((hgr.block w3.heap.size (by omega) (by intro h9; have := Option.some.inj h9; omega)).trans (show ((w3.alloc (.cells #[.string k1_, .bool o1_, .bool b1_, .slice A5 l1.length k5, .int .i64 n1] 31 : Obj)).alloc (.cells #[.int .i64 c1, .int .i64 v1, .string t1, .int .i64 wa1, .int .i64 h1_] 33 : Obj)).heap[w3.heap.size]? = some (.cells #[.string k1_, .bool o1_, .bool b1_, .slice A5 l1.length k5, .int .i64 n1] 31 (0, 0) : Obj) from heap_old (by simp) (heap_new rfl)))
      have E11 := hide ((hgr.block (w3.heap.size + 1) (by omega) (by intro h9; have := Option.some.inj h9; omega)).trans (show ((w3.alloc (.cells #[.string k1_, .bool o1_, .bool b1_, .slice A5 l1.length k5, .int .i64 n1] 31 : Obj)).alloc (.cells #[.int .i64 c1, .int .i64 v1, .string t1, .int .i64 wa1, .int .i64 h1_] 33 : Obj)).heap[w3.heap.size + 1]? = some (.cells #[.int .i64 c1, .int .i64 v1, .string t1, .int .i64 wa1, .int .i64 h1_] 33 (0, 0) : Obj) from heap_new (by simp)))
      have c5 : Below w.heap.size w W5 := Below.grown (below_then c3 b4) hgr (below_then c3 b4).size (fun j hj => by have := Option.some.inj hj; omega)
      have hs5 : w3.heap.size ≤ W5.heap.size := Nat.le_trans (by omega) hgr.size
      obtain ⟨_, _, _, _, _, _⟩ := five_cells R4
      obtain ⟨_, _, _, _, _, _⟩ := five_cells (show ((w3.alloc (.cells #[.string k1_, .bool o1_, .bool b1_, .slice A5 l1.length k5, .int .i64 n1] 31 : Obj)).alloc (.cells #[.int .i64 c1, .int .i64 v1, .string t1, .int .i64 wa1, .int .i64 h1_] 33 : Obj)).heap[w3.heap.size]? = some (.cells #[.string k1_, .bool o1_, .bool b1_, .slice A5 l1.length k5, .int .i64 n1] 31 (0, 0) : Obj) from heap_old (by simp) (heap_new rfl))
      obtain ⟨d0, d1, d2, d3, d4, df⟩ := five_cells E11.out
      rw [← hW5.out] at d0 d1 d2 d3 d4 df
      have HW5 := hide hW5.out
      have hs5e : W5.heap.size = w3.heap.size + 1 + 1 := by rw [← HW5.out]; simp
      clear hst1 R4 b4 hgr hW5
      by_cases hc1 : c1 = 1
      · have hF : Pu.callsF p l = (⟨k1_, o1_, b1_, l1, n1⟩, rs ++ [⟨c1, v1, t1, wa1, h1_⟩]) := by
          rw [HF.out, Pu.calls_stop (by rw [HR.out]; exact hc1), HR.out]
        have HFF := hide hF
        clear hF
        subst hc1
        go_wp2_with (at_builtin; go_must (rw [HW5.out]; refine push_free rfl _ _ 45 (by exact rfl) w.heap.size 33 i0 _ 5 48 Tryz.underlying45 hi hz0 hz1 hz2 rfl (by decide) replyEn _ rs (⟨1, v1, t1, wa1, h1_⟩ : Pu.ReplyD) (by exact rfl) U5.out (by rw [hs5e]; rfl) rfl (one_reply _) c5.size (by omega) (by decide) ?_); intro v6 w6 own6 hg6; have hgA : W5.grownBy w6 (Value.slice A4 rs.length k4).ownBlock := grown_trans (grown_alloc (grown_refl W5 _) _) hg6; have R6 := hide (row_grown hgA R5.out (by intro h9; exact own_apart U5.out R5.out (by decide) h9.symm)); have Z6 := hide (row_grown hgA Z5.out (by intro h9; exact own_apart U5.out Z5.out (by decide) h9.symm)); have E116 := hide (row_grown hgA E11.out (by intro h9; have h10 := (OwnL.lt U3.out h9.symm).2; omega)); have O6 := hide (OwnL.kept O5.out hgA (by rcases hv : (Value.slice A5 l1.length k5).ownBlock with _ | j; exact .inl rfl; refine .inr (fun h9 => ?_); have h10 := OwnL.blockType O5.out hv; exact own_apart U5.out h10.choose_spec (by decide) h9.symm)); have c6 : Below w.heap.size w w6 := Below.grown c5 hgA c5.size (fun j hj => (OwnL.lt U5.out hj).1); have hs6 : W5.heap.size ≤ w6.heap.size := hgA.size; have HOWN6 := hide own6; obtain ⟨_, _, _, _, _, _⟩ := five_cells R6.out; obtain ⟨_, _, _, _, _, _⟩ := five_cells E116.out; obtain ⟨_, _, _, _, _, _⟩ := five_cells Z6.out; clear hgA hg6 own6)
        have hst9 := store5 (.string k1_) (.bool o1_) (.bool b1_) (.slice A5 l1.length k5) (.int .i64 n1) Z6.out rfl
        refine bodyPost_ret (v := .tuple #[.agg #[.string k1_, .bool o1_, .bool b1_, .slice A5 l1.length k5, .int .i64 n1], v6]) ?_ rfl ?_
        · obtain ⟨y0, y1, y2, y3, y4, yf⟩ := five_cells hst9.1
          simp [results, Tryz.results22, go_sem, y0, y1, y2, y3, y4]
        rw [HFF.out]
        obtain ⟨_, _, _, _, _, hgr9⟩ := id hst9.2
        exact ⟨_, _, rfl, firm_own (TS := [31]) (by decide) _ _ (.inr ⟨_, 31, by simp, hst9.2⟩) O6.out, firm_own (TS := [31]) (by decide) _ _ (.inr ⟨_, 31, by simp, hst9.2⟩) HOWN6.out, Below.grown c6 hgr9 c6.size (fun j hj => by have := Option.some.inj hj; omega)⟩
      · have hb1 : (c1 == 1) = false := by simp [hc1]
        go_wp2_with (at_builtin; go_must (rw [HW5.out]; refine push_free rfl _ _ 45 (by exact rfl) w.heap.size 33 i0 _ 5 48 Tryz.underlying45 hi hz0 hz1 hz2 rfl (by decide) replyEn _ rs (⟨c1, v1, t1, wa1, h1_⟩ : Pu.ReplyD) (by exact rfl) U5.out (by rw [hs5e]; rfl) rfl (one_reply _) c5.size (by omega) (by decide) ?_); intro v6 w6 own6 hg6; have hgA : W5.grownBy w6 (Value.slice A4 rs.length k4).ownBlock := grown_trans (grown_alloc (grown_refl W5 _) _) hg6; have R6 := hide (row_grown hgA R5.out (by intro h9; exact own_apart U5.out R5.out (by decide) h9.symm)); have Z6 := hide (row_grown hgA Z5.out (by intro h9; exact own_apart U5.out Z5.out (by decide) h9.symm)); have E116 := hide (row_grown hgA E11.out (by intro h9; have h10 := (OwnL.lt U3.out h9.symm).2; omega)); have O6 := hide (OwnL.kept O5.out hgA (by rcases hv : (Value.slice A5 l1.length k5).ownBlock with _ | j; exact .inl rfl; refine .inr (fun h9 => ?_); have h10 := OwnL.blockType O5.out hv; exact own_apart U5.out h10.choose_spec (by decide) h9.symm)); have c6 : Below w.heap.size w w6 := Below.grown c5 hgA c5.size (fun j hj => (OwnL.lt U5.out hj).1); have hs6 : W5.heap.size ≤ w6.heap.size := hgA.size; have HOWN6 := hide own6; obtain ⟨_, _, _, _, _, _⟩ := five_cells R6.out; obtain ⟨_, _, _, _, _, _⟩ := five_cells E116.out; obtain ⟨_, _, _, _, _, _⟩ := five_cells Z6.out; clear hgA hg6 own6)
        go_roundw
        case rel =>
          refine ⟨k + 1, ⟨k1_, o1_, b1_, l1, n1⟩, rs ++ [⟨c1, v1, t1, wa1, h1_⟩], _, by omega, by go_num, HA2, by simp; omega, ?_, R6, O6, HOWN6, Z6, c6, by omega⟩
          rw [Hid, HF.out, Pu.calls_go (by rw [HR.out]; exact hc1), HR.out, List.append_assoc]
          rfl
        case measure => simp [intOf]; omega
    · obtain rfl : k = l.length := by omega
      have HFF : Hid (Pu.callsF p l = (q, rs)) := by
        have h := HF.out
        rw [List.drop_eq_nil_of_le (Nat.le_refl _), Pu.callsF, List.append_nil] at h
        exact h
      obtain ⟨_, _, _, _, _, _⟩ := five_cells RZ.out
      go_wp2
      have hst9 := store5 (.string q.kind) (.bool q.on) (.bool q.broken) (.slice A3 q.cells.length k3) (.int .i64 q.count) RZ.out rfl
      refine bodyPost_ret (v := .tuple #[.agg #[.string q.kind, .bool q.on, .bool q.broken, .slice A3 q.cells.length k3, .int .i64 q.count], .slice A4 rs.length k4]) ?_ rfl ?_
      · obtain ⟨y0, y1, y2, y3, y4, yf⟩ := five_cells hst9.1
        simp [results, Tryz.results22, go_sem, y0, y1, y2, y3, y4]
      rw [HFF.out]
      obtain ⟨_, _, _, _, _, hgr9⟩ := id hst9.2
      exact ⟨_, _, rfl, firm_own (TS := [31]) (by decide) _ _ (.inr ⟨_, 31, by simp, hst9.2⟩) OQ.out, firm_own (TS := [31]) (by decide) _ _ (.inr ⟨_, 31, by simp, hst9.2⟩) OU.out, Below.grown hb hgr9 hb.size (fun j hj => by have := Option.some.inj hj; omega)⟩
set_option maxHeartbeats 4000000 in
theorem iCallCores_c (p : Pu.CoreD) (s t : Value) (l : List Pu.CallD) (w : World) (hM : MaxC w) (hT : Pow10 w) (hE : ErrSyn w) (hw : CoreD.wf p) (hs : RdCells w s p.cells) (hl : p.cells.length ≤ 1048576) (ht : RdL w 4 callEn t l) (hx : ∀ x ∈ l, CallD.wf x ∧ x.text.size ≤ 1048576) (hll : l.length ≤ 1048576) :
    Calls Tryz.prog 24 #[coreV p s, t] w fun e w' => ∃ s' u, e = .returned (.tuple #[coreV (Pu.callsF p l).1 s', u]) ∧ OwnL w' w.heap.size 63 2 cellEn s' (Pu.callsF p l).1.cells ∧ OwnL w' w.heap.size 33 5 replyEn u (Pu.callsF p l).2 ∧ Below w.heap.size w w' := by
  have hlM := hM.lt
  have hlT := hT.lt
  have hlE := hE.lt
  have HM := hide hM
  have HT := hide hT
  have HE := hide hE
  clear hM hT hE
  obtain ⟨i0, hi, hz0, hz1, hz2⟩ := info_parts info_reply
  have HC := hide hs.2
  have HWF := hide hw
  have HS := hide hs.1
  have HXS := hide hx
  clear hs hx hw
  obtain ⟨B, cB, rfl, hlc, hcm, hB⟩ := ht.open_
  have HB := hide hB
  clear hB ht
  unfold coreV
  go_enter Tryz.func24, Tryz.ntmps24
  have ba : Below w.heap.size w ((w.alloc (.cells #[.string p.kind, .bool p.on, .bool p.broken, s, .int .i64 p.count] 31 : Obj)).alloc (.cells #[.string ⟨#[]⟩, .bool false, .bool false, .slice none 0 0, .int .i64 0] 31 : Obj)) := below_alloc (below_alloc (Below.refl _ _) _) _
  obtain ⟨_, _, _, _, _, _⟩ := five_cells (show ((w.alloc (.cells #[.string p.kind, .bool p.on, .bool p.broken, s, .int .i64 p.count] 31 : Obj)).alloc (.cells #[.string ⟨#[]⟩, .bool false, .bool false, .slice none 0 0, .int .i64 0] 31 : Obj)).heap[w.heap.size]? = some (.cells #[.string p.kind, .bool p.on, .bool p.broken, s, .int .i64 p.count] 31 (0, 0) : Obj) from heap_old (by simp) (heap_new rfl))
  have RZ0 : ((w.alloc (.cells #[.string p.kind, .bool p.on, .bool p.broken, s, .int .i64 p.count] 31 : Obj)).alloc (.cells #[.string ⟨#[]⟩, .bool false, .bool false, .slice none 0 0, .int .i64 0] 31 : Obj)).heap[w.heap.size + 1]? = some (.cells #[.string ⟨#[]⟩, .bool false, .bool false, .slice none 0 0, .int .i64 0] 31 (0, 0) : Obj) := heap_new (by simp)
  go_wp2_with fail
  refine (iCopyCore_c p s _ (RdL.below HS.out ba (Nat.le_refl _)) (by omega)).mono ?_; rintro e w1 ⟨s1, rfl, o1, b1⟩
  have RZ1 := hide (row_on b1 RZ0)
  have c1 := below_then ba b1
  have o1 := OwnL.mono o1 ba.size
  obtain ⟨A1, k1, rfl⟩ := o1.shape
  unfold coreV
  have O1 := hide o1
  have hz1a : w.heap.size + 1 < w1.heap.size := (Array.getElem?_eq_some_iff.1 RZ1.out).1
  clear o1 RZ0
  obtain ⟨w2, hw2⟩ : ∃ W, Hid ((w1.alloc (.cells #[.string p.kind, .bool p.on, .bool p.broken, .slice A1 p.cells.length k1, .int .i64 p.count] 31 : Obj)) = W) := ⟨_, rfl⟩
  have c2 : Below w.heap.size w w2 := by rw [← hw2.out]; exact below_alloc c1 _
  have b2 : Below w1.heap.size w1 w2 := by rw [← hw2.out]; exact below_alloc (Below.refl _ _) _
  have R2 := hide (show w2.heap[w1.heap.size]? = some (.cells #[.string p.kind, .bool p.on, .bool p.broken, .slice A1 p.cells.length k1, .int .i64 p.count] 31 (0, 0) : Obj) by rw [← hw2.out]; exact heap_new rfl)
  have O2 := hide (show OwnL w2 w.heap.size 63 2 cellEn (.slice A1 p.cells.length k1) p.cells from OwnL.below O1.out b2 (Nat.le_refl _))
  have U2 := hide (show OwnL w2 w.heap.size 33 5 replyEn (.slice none 0 0) ([] : List Pu.ReplyD) by rw [← hw2.out]; exact OwnL.nil _ _ _ _ _)
  have RZ2 := hide (row_on b2 RZ1.out)
  have hwb : w.heap.size < w1.heap.size := by omega
  have hwc : w1.heap.size < w2.heap.size := (Array.getElem?_eq_some_iff.1 R2.out).1
  clear b2 O1 RZ1 ba b1 c1
  go_wp2_with fail
  rw [hw2.out]
  go_loopw [7, 16] (fun u i wr => ∃ (k : Nat) (q : Pu.CoreD) (rs : List Pu.ReplyD) (sv : Value), k ≤ l.length ∧ i = .int .i64 k ∧ Hid (Pu.Along p q) ∧ rs.length ≤ k ∧ Hid (Pu.callsF p l = ((Pu.callsF q (l.drop k)).1, rs ++ (Pu.callsF q (l.drop k)).2)) ∧ Hid (wr.heap[w1.heap.size]? = some (.cells #[.string q.kind, .bool q.on, .bool q.broken, sv, .int .i64 q.count] 31 (0, 0) : Obj)) ∧ Hid (OwnL wr w.heap.size 63 2 cellEn sv q.cells) ∧ Hid (OwnL wr w.heap.size 33 5 replyEn u rs) ∧ Hid (wr.heap[w.heap.size + 1]? = some (.cells #[.string ⟨#[]⟩, .bool false, .bool false, .slice none 0 0, .int .i64 0] 31 (0, 0) : Obj)) ∧ Below w.heap.size w wr ∧ w2.heap.size ≤ wr.heap.size) (fun _ i _ => l.length - (intOf i).toNat)
  case atStart => exact ⟨0, p, [], _, by omega, rfl, by rcases hp : Pu.coreB p with _ | _; exact .inr ⟨hp, rfl⟩; exact .inl ⟨hp, hp, rfl⟩, Nat.le_refl _, by rw [Hid, List.drop_zero]; rfl, R2.out, O2.out, U2.out, RZ2.out, c2, Nat.le_refl _⟩
  case round =>
    obtain ⟨k, q, rs, sv, hk, rfl, HA, hrs, HF, RQ, OQ, OU, RZ, hb, hsz⟩ := hrel
    obtain ⟨A3, k3, rfl⟩ := OQ.out.shape
    obtain ⟨A4, k4, rfl⟩ := OU.out.shape
    obtain ⟨_, _, _, _, _, _⟩ := five_cells RQ.out
    by_cases hlt : k < l.length
    · skip
      obtain ⟨g, o, rfl, hg, HCB⟩ := HB.out.at_ (by omega)
      obtain ⟨x, HX, h0, h1, h2, h3⟩ := call_get HCB hb hlt
      have hxm := HXS.out x (List.mem_of_getElem? HX.out)
      have hwx := hide hxm.1
      have htx := hide hxm.2
      clear hxm
      obtain ⟨qw, qc, qn⟩ := Pu.along_wf HA.out HWF.out HC.out hl
      have QW := hide qw
      have QC := hide qc
      clear qw qc
      have HD := hide (dropL HX)
      rw [HD.out] at HF
      obtain ⟨⟨⟨k1_, o1_, b1_, l1, n1⟩, ⟨c1, v1, t1, wa1, h1_⟩⟩, HR⟩ : ∃ R : Pu.CoreD × Pu.ReplyD, Hid (Pu.callF q x = R) := ⟨_, rfl⟩
      have HA2 := hide (Pu.along_step x HA.out)
      rw [HR.out] at HA2
      have HB2 := hide hb
      have bx : Below w.heap.size w (wr.alloc (.cells #[.string x.method, .string x.key, .int .i64 x.value, .string x.text] 37 : Obj)) := below_alloc hb _
      have bxr : Below wr.heap.size wr (wr.alloc (.cells #[.string x.method, .string x.key, .int .i64 x.value, .string x.text] 37 : Obj)) := below_alloc (Below.refl _ _) _
      obtain ⟨_, _, _, _, _, _⟩ := five_cells (row_on bxr RQ.out)
      go_wp2_with fail
      refine (iCallCore_x q x _ _ k1_ t1 o1_ b1_ l1 n1 c1 v1 wa1 h1_ (HM.out.below bx hlM) (HT.out.below bx hlT) (HE.out.below bx hlE) QW.out hwx.out ⟨RdL.below (OQ.out.rd (fun _ => rfl)) bxr (Nat.le_refl _), QC.out⟩ (by omega) htx.out HR).mono ?_; rintro e w3 ⟨A5, k5, rfl, o5, b3⟩
      have b3r := below_then bxr b3
      have R3 := hide (row_on b3r RQ.out)
      have Z3 := hide (row_on b3r RZ.out)
      have o5 := hide (OwnL.mono o5 bx.size)
      have U3 := hide (OwnL.below OU.out b3r (Nat.le_refl _))
      have c3 := below_then bx b3
      have hs3 := b3r.size
      clear b3 bx bxr b3r hb
      have b4 : Below w3.heap.size w3 ((w3.alloc (.cells #[.string k1_, .bool o1_, .bool b1_, .slice A5 l1.length k5, .int .i64 n1] 31 : Obj)).alloc (.cells #[.int .i64 c1, .int .i64 v1, .string t1, .int .i64 wa1, .int .i64 h1_] 33 : Obj)) := below_alloc (below_alloc (Below.refl _ _) _) _
      have R4 := row_on b4 R3.out
      have hst := store5 (.string k1_) (.bool o1_) (.bool b1_) (.slice A5 l1.length k5) (.int .i64 n1) R4 rfl
      obtain ⟨W5, hW5⟩ : ∃ W, Hid (((((((w3.alloc (.cells #[.string k1_, .bool o1_, .bool b1_, .slice A5 l1.length k5, .int .i64 n1] 31 : Obj)).alloc (.cells #[.int .i64 c1, .int .i64 v1, .string t1, .int .i64 wa1, .int .i64 h1_] 33 : Obj)).setCell ⟨w1.heap.size, 0, none⟩ (.string k1_)).setCell ⟨w1.heap.size, 1, none⟩ (.bool o1_)).setCell ⟨w1.heap.size, 2, none⟩ (.bool b1_)).setCell ⟨w1.heap.size, 3, none⟩ (.slice A5 l1.length k5)).setCell ⟨w1.heap.size, 4, none⟩ (.int .i64 n1) = W) := ⟨_, rfl⟩
      obtain ⟨hst1, hst2⟩ := hst
      rw [hW5.out] at hst1 hst2
      have hmv := hide (show Moved [31] ((w3.alloc (.cells #[.string k1_, .bool o1_, .bool b1_, .slice A5 l1.length k5, .int .i64 n1] 31 : Obj)).alloc (.cells #[.int .i64 c1, .int .i64 v1, .string t1, .int .i64 wa1, .int .i64 h1_] 33 : Obj)) W5 from .inr ⟨_, 31, by simp, hst2⟩)
      have R5 := hide hst1
      have U5 := hide (firm_own (by decide) _ _ hmv.out (OwnL.below U3.out b4 (Nat.le_refl _)))
      have O5 := hide (firm_own (by decide) _ _ hmv.out (OwnL.below o5.out b4 (Nat.le_refl _)))
      obtain ⟨_, _, _, _, _, hgr⟩ := hst2
      have hs4 : ((w3.alloc (.cells #[.string k1_, .bool o1_, .bool b1_, .slice A5 l1.length k5, .int .i64 n1] 31 : Obj)).alloc (.cells #[.int .i64 c1, .int .i64 v1, .string t1, .int .i64 wa1, .int .i64 h1_] 33 : Obj)).heap.size = w3.heap.size + 1 + 1 := by simp
      have Z5 := hide ((hgr.block _ (by omega) (by intro h9; have := Option.some.inj h9; omega)).trans (row_on b4 Z3.out))
      have E10 := hide ((hgr.block w3.heap.size (by omega) (by intro h9; have := Option.some.inj h9; omega)).trans (show ((w3.alloc (.cells #[.string k1_, .bool o1_, .bool b1_, .slice A5 l1.length k5, .int .i64 n1] 31 : Obj)).alloc (.cells #[.int .i64 c1, .int .i64 v1, .string t1, .int .i64 wa1, .int .i64 h1_] 33 : Obj)).heap[w3.heap.size]? = some (.cells #[.string k1_, .bool o1_, .bool b1_, .slice A5 l1.length k5, .int .i64 n1] 31 (0, 0) : Obj) from heap_old (by simp) (heap_new rfl)))
      have E11 := hide ((hgr.block (w3.heap.size + 1) (by omega) (by intro h9; have := Option.some.inj h9; omega)).trans (show ((w3.alloc (.cells #[.string k1_, .bool o1_, .bool b1_, .slice A5 l1.length k5, .int .i64 n1] 31 : Obj)).alloc (.cells #[.int .i64 c1, .int .i64 v1, .string t1, .int .i64 wa1, .int .i64 h1_] 33 : Obj)).heap[w3.heap.size + 1]? = some (.cells #[.int .i64 c1, .int .i64 v1, .string t1, .int .i64 wa1, .int .i64 h1_] 33 (0, 0) : Obj) from heap_new (by simp)))
      have c5 : Below w.heap.size w W5 := Below.grown (below_then c3 b4) hgr (below_then c3 b4).size (fun j hj => by have := Option.some.inj hj; omega)
      have hs5 : w3.heap.size ≤ W5.heap.size := Nat.le_trans (by omega) hgr.size
      obtain ⟨_, _, _, _, _, _⟩ := five_cells R4
      obtain ⟨_, _, _, _, _, _⟩ := five_cells (show ((w3.alloc (.cells #[.string k1_, .bool o1_, .bool b1_, .slice A5 l1.length k5, .int .i64 n1] 31 : Obj)).alloc (.cells #[.int .i64 c1, .int .i64 v1, .string t1, .int .i64 wa1, .int .i64 h1_] 33 : Obj)).heap[w3.heap.size]? = some (.cells #[.string k1_, .bool o1_, .bool b1_, .slice A5 l1.length k5, .int .i64 n1] 31 (0, 0) : Obj) from heap_old (by simp) (heap_new rfl))
      obtain ⟨d0, d1, d2, d3, d4, df⟩ := five_cells E11.out
      rw [← hW5.out] at d0 d1 d2 d3 d4 df
      have HW5 := hide hW5.out
      have hs5e : W5.heap.size = w3.heap.size + 1 + 1 := by rw [← HW5.out]; simp
      clear hst1 R4 b4 hgr hW5
      by_cases hc1 : c1 = 1
      · have hF : Pu.callsF p l = (⟨k1_, o1_, b1_, l1, n1⟩, rs ++ [⟨c1, v1, t1, wa1, h1_⟩]) := by
          rw [HF.out, Pu.calls_stop (by rw [HR.out]; exact hc1), HR.out]
        have HFF := hide hF
        clear hF
        subst hc1
        go_wp2_with (at_builtin; go_must (rw [HW5.out]; refine push_free rfl _ _ 45 (by exact rfl) w.heap.size 33 i0 _ 5 48 Tryz.underlying45 hi hz0 hz1 hz2 rfl (by decide) replyEn _ rs (⟨1, v1, t1, wa1, h1_⟩ : Pu.ReplyD) (by exact rfl) U5.out (by rw [hs5e]; rfl) rfl (one_reply _) c5.size (by omega) (by decide) ?_); intro v6 w6 own6 hg6; have hgA : W5.grownBy w6 (Value.slice A4 rs.length k4).ownBlock := grown_trans (grown_alloc (grown_refl W5 _) _) hg6; have R6 := hide (row_grown hgA R5.out (by intro h9; exact own_apart U5.out R5.out (by decide) h9.symm)); have Z6 := hide (row_grown hgA Z5.out (by intro h9; exact own_apart U5.out Z5.out (by decide) h9.symm)); have E116 := hide (row_grown hgA E11.out (by intro h9; have h10 := (OwnL.lt U3.out h9.symm).2; omega)); have O6 := hide (OwnL.kept O5.out hgA (by rcases hv : (Value.slice A5 l1.length k5).ownBlock with _ | j; exact .inl rfl; refine .inr (fun h9 => ?_); have h10 := OwnL.blockType O5.out hv; exact own_apart U5.out h10.choose_spec (by decide) h9.symm)); have c6 : Below w.heap.size w w6 := Below.grown c5 hgA c5.size (fun j hj => (OwnL.lt U5.out hj).1); have hs6 : W5.heap.size ≤ w6.heap.size := hgA.size; have HOWN6 := hide own6; obtain ⟨_, _, _, _, _, _⟩ := five_cells R6.out; obtain ⟨_, _, _, _, _, _⟩ := five_cells E116.out; obtain ⟨_, _, _, _, _, _⟩ := five_cells Z6.out; clear hgA hg6 own6)
        have hst9 := store5 (.string k1_) (.bool o1_) (.bool b1_) (.slice A5 l1.length k5) (.int .i64 n1) Z6.out rfl
        refine bodyPost_ret (v := .tuple #[.agg #[.string k1_, .bool o1_, .bool b1_, .slice A5 l1.length k5, .int .i64 n1], v6]) ?_ rfl ?_
        · obtain ⟨y0, y1, y2, y3, y4, yf⟩ := five_cells hst9.1
          simp [results, Tryz.results24, go_sem, y0, y1, y2, y3, y4]
        rw [HFF.out]
        obtain ⟨_, _, _, _, _, hgr9⟩ := id hst9.2
        exact ⟨_, _, rfl, firm_own (TS := [31]) (by decide) _ _ (.inr ⟨_, 31, by simp, hst9.2⟩) O6.out, firm_own (TS := [31]) (by decide) _ _ (.inr ⟨_, 31, by simp, hst9.2⟩) HOWN6.out, Below.grown c6 hgr9 c6.size (fun j hj => by have := Option.some.inj hj; omega)⟩
      · have hb1 : (c1 == 1) = false := by simp [hc1]
        go_wp2_with (at_builtin; go_must (rw [HW5.out]; refine push_free rfl _ _ 45 (by exact rfl) w.heap.size 33 i0 _ 5 48 Tryz.underlying45 hi hz0 hz1 hz2 rfl (by decide) replyEn _ rs (⟨c1, v1, t1, wa1, h1_⟩ : Pu.ReplyD) (by exact rfl) U5.out (by rw [hs5e]; rfl) rfl (one_reply _) c5.size (by omega) (by decide) ?_); intro v6 w6 own6 hg6; have hgA : W5.grownBy w6 (Value.slice A4 rs.length k4).ownBlock := grown_trans (grown_alloc (grown_refl W5 _) _) hg6; have R6 := hide (row_grown hgA R5.out (by intro h9; exact own_apart U5.out R5.out (by decide) h9.symm)); have Z6 := hide (row_grown hgA Z5.out (by intro h9; exact own_apart U5.out Z5.out (by decide) h9.symm)); have E116 := hide (row_grown hgA E11.out (by intro h9; have h10 := (OwnL.lt U3.out h9.symm).2; omega)); have O6 := hide (OwnL.kept O5.out hgA (by rcases hv : (Value.slice A5 l1.length k5).ownBlock with _ | j; exact .inl rfl; refine .inr (fun h9 => ?_); have h10 := OwnL.blockType O5.out hv; exact own_apart U5.out h10.choose_spec (by decide) h9.symm)); have c6 : Below w.heap.size w w6 := Below.grown c5 hgA c5.size (fun j hj => (OwnL.lt U5.out hj).1); have hs6 : W5.heap.size ≤ w6.heap.size := hgA.size; have HOWN6 := hide own6; obtain ⟨_, _, _, _, _, _⟩ := five_cells R6.out; obtain ⟨_, _, _, _, _, _⟩ := five_cells E116.out; obtain ⟨_, _, _, _, _, _⟩ := five_cells Z6.out; clear hgA hg6 own6)
        go_roundw
        case rel =>
          refine ⟨k + 1, ⟨k1_, o1_, b1_, l1, n1⟩, rs ++ [⟨c1, v1, t1, wa1, h1_⟩], _, by omega, by go_num, HA2, by simp; omega, ?_, R6, O6, HOWN6, Z6, c6, by omega⟩
          rw [Hid, HF.out, Pu.calls_go (by rw [HR.out]; exact hc1), HR.out, List.append_assoc]
          rfl
        case measure => simp [intOf]; omega
    · obtain rfl : k = l.length := by omega
      have HFF : Hid (Pu.callsF p l = (q, rs)) := by
        have h := HF.out
        rw [List.drop_eq_nil_of_le (Nat.le_refl _), Pu.callsF, List.append_nil] at h
        exact h
      obtain ⟨_, _, _, _, _, _⟩ := five_cells RZ.out
      go_wp2
      have hst9 := store5 (.string q.kind) (.bool q.on) (.bool q.broken) (.slice A3 q.cells.length k3) (.int .i64 q.count) RZ.out rfl
      refine bodyPost_ret (v := .tuple #[.agg #[.string q.kind, .bool q.on, .bool q.broken, .slice A3 q.cells.length k3, .int .i64 q.count], .slice A4 rs.length k4]) ?_ rfl ?_
      · obtain ⟨y0, y1, y2, y3, y4, yf⟩ := five_cells hst9.1
        simp [results, Tryz.results24, go_sem, y0, y1, y2, y3, y4]
      rw [HFF.out]
      obtain ⟨_, _, _, _, _, hgr9⟩ := id hst9.2
      exact ⟨_, _, rfl, firm_own (TS := [31]) (by decide) _ _ (.inr ⟨_, 31, by simp, hst9.2⟩) OQ.out, firm_own (TS := [31]) (by decide) _ _ (.inr ⟨_, 31, by simp, hst9.2⟩) OU.out, Below.grown hb hgr9 hb.size (fun j hj => by have := Option.some.inj hj; omega)⟩
end Go.Proofs.YtllmcnmongaahaaGreatDoor
