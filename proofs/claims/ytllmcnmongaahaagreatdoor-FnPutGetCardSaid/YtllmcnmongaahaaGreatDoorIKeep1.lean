/- Contracts: what the reference's calls do to a core (keepCall: a core that is on). Written by wip/tools/keepgen.py. -/
import Derived.Test.YtllmcnmongaahaaGreatDoorM2
namespace Go.Proofs.YtllmcnmongaahaaGreatDoor
open Go.ChangeShapes Go.WideShapes Go.ChangeAt Go.RowKit
set_option maxRecDepth 100000
set_option linter.unusedVariables false
set_option maxHeartbeats 4000000 in
theorem iKeep_nonem1 (G : Nat) (k m key t : ByteArray) (v : Int) (b : Bool) (s : Value) (l : List Pu.CellD) (n : Int) (base : Nat) (w : World) (R : Pu.CoreD × Pu.ReplyD) (F : Int) (HF : Hid (Pu.kindF k.toList = F)) (hbit : bits .and .i64 F 1 = 1) (hg : w.heap[G]? = some (.cells #[.string k, .bool true, .bool b, s, .int .i64 n] 31 (0, 0) : Obj)) (hs : OwnL w base 63 2 cellEn s l) (hbG : base ≤ G) (hlen : l.length ≤ 4) (hn0 : 0 ≤ n) (hn1 : n ≤ 999) (hG : (m.toList == [71, 101, 116]) = true) (N : Nat) (hN : N < l.length) (y : Pu.CellD) (HY : Hid (l[N]? = some y)) (hys : Op.bytesLess y.key.toList key.toList = false) (hyk : (y.key.toList == key.toList) = false) (HLOW : Hid (∀ i c, i < N → l[i]? = some c → Op.bytesLess c.key.toList key.toList = true)) (HN : Hid (R = (⟨k, true, b, l, n⟩, Pu.rp 4 0))) :
    Calls Tryz.prog 93 #[.pointer (some ⟨G, 0, none⟩), .agg #[.string m, .string key, .int .i64 v, .string t]] w fun e w' => ∃ A' c', e = .returned (replyV R.2) ∧ w'.heap[G]? = some (.cells #[.string R.1.kind, .bool R.1.on, .bool R.1.broken, .slice A' R.1.cells.length c', .int .i64 R.1.count] 31 (0, 0)) ∧ OwnL w' base 63 2 cellEn (.slice A' R.1.cells.length c') R.1.cells ∧ Below base w w' ∧ Only G s.ownBlock w w' := by
  obtain ⟨A, c, rfl⟩ := hs.shape
  have HS := hide hs
  have HFAR := hide (fun g hg => (OwnL.lt hs (g := g) hg))
  have hGs : G < w.heap.size := (Array.getElem?_eq_some_iff.1 hg).1
  have E0 := hide (show ((w.alloc (.cells #[.string m, .string key, .int .i64 v, .string t] 37 : Obj)).alloc (.cells #[.int .i64 0, .int .i64 0, .string ⟨#[]⟩, .int .i64 0, .int .i64 0] 33 : Obj)).heap[G]? = some (.cells #[.string k, .bool true, .bool b, .slice A l.length c, .int .i64 n] 31 (0, 0) : Obj) from heap_old (by simp <;> omega) (heap_old (by omega) hg))
  have HG := hide hg
  clear hs hg
  go_enter Tryz.func93, Tryz.ntmps93
  obtain ⟨_, _, _, _, _, _⟩ := five_cells E0.out
  obtain ⟨w0, hw0⟩ : ∃ w0, Hid ((w.alloc (.cells #[.string m, .string key, .int .i64 v, .string t] 37 : Obj)).alloc (.cells #[.int .i64 0, .int .i64 0, .string ⟨#[]⟩, .int .i64 0, .int .i64 0] 33 : Obj) = w0) := ⟨_, rfl⟩
  have b0 : Below w.heap.size w w0 := by rw [← hw0.out]; exact below_alloc (below_alloc (Below.refl _ _) _) _
  have Y0 := hide (show w0.heap[G]? = some (.cells #[.string k, .bool true, .bool b, .slice A l.length c, .int .i64 n] 31 (0, 0) : Obj) by rw [← hw0.out]; exact E0.out)
  have Y1 := hide (show w0.heap[w.heap.size]? = some (.cells #[.string m, .string key, .int .i64 v, .string t] 37 : Obj) by rw [← hw0.out]; exact heap_old (by simp) (heap_new rfl))
  have Y2 := hide (show w0.heap[w.heap.size + 1]? = some (.cells #[.int .i64 0, .int .i64 0, .string ⟨#[]⟩, .int .i64 0, .int .i64 0] 33 : Obj) by rw [← hw0.out]; exact heap_new (by simp))
  have HO0 := hide (OwnL.below HS.out b0 (Nat.le_refl _))
  go_wp2_with fail
  refine (iKindFace_c _ _).mono ?_; rintro e w1 ⟨rfl, rfl⟩
  rw [HF.out]
  go_wp2_with fail
  rw [hw0.out]
  go_loopw [7] (fun i wr => ∃ j : Nat, j ≤ N ∧ i = .int .i64 j ∧ Below w0.heap.size w0 wr) (fun i _ => N - (intOf i).toNat)
  case atStart => exact ⟨0, by omega, rfl, Below.refl _ _⟩
  case round =>
    obtain ⟨j, hj, rfl, hb⟩ := hrel
    have X0 := hide (row_on hb Y0.out)
    have X1 := hide (row_on hb Y1.out)
    have X2 := hide (row_on hb Y2.out)
    have HOX := hide (OwnL.below HO0.out hb (Nat.le_refl _))
    obtain ⟨_, _, _, _, _, _⟩ := five_cells X0.out
    obtain ⟨_, _, _, _, _⟩ := four_cells X1.out
    obtain ⟨e0, e1, e2, e3, e4, ef⟩ := five_cells X2.out
    have hbx : Below base w wr := (b0.trans (hb.mono b0.size)).mono (by omega)
    have hbO : Below w.heap.size w wr := b0.trans (hb.mono b0.size)
    by_cases hlt : j < N
    · obtain ⟨A9, c9, hA9, hlc, hcm, hA⟩ := RdL.open_ (OwnL.rd (size := 2) (en := cellEn) (fun _ => rfl) HOX.out)
      obtain ⟨rfl, rfl⟩ : A = A9 ∧ c = c9 := by injection hA9 with h1 h2 h3; exact ⟨h1, h3⟩
      obtain ⟨g, oo, rfl, hgl, HC⟩ := RdAt.at_ hA (by omega)
      obtain ⟨z, HZ, z0, z1⟩ := cell_get HC (Below.refl _ _) (show j < l.length by omega)
      have hzl := HLOW.out j z hlt HZ.out
      clear hA hA9
      have hjl : j < l.length := by omega
      have hjd : decide (j < l.length) = true := decide_eq_true hjl
      go_wp2_with fail
      go_quiet (fail)
      go_wp2
      go_roundw
      case rel => exact ⟨j + 1, by omega, by go_num, below_drewN hb _⟩
      case measure => simp [intOf]; omega
    · obtain rfl : j = N := by omega
      have HFX := hide (fun g hg => And.intro (own_ne HOX.out X0.out (by decide) g hg) (And.intro (own_ne HOX.out X1.out (by decide) g hg) (own_ne HOX.out X2.out (by decide) g hg)))
      obtain ⟨A9, c9, hA9, hlc, hcm, hA⟩ := RdL.open_ (OwnL.rd (size := 2) (en := cellEn) (fun _ => rfl) HOX.out)
      obtain ⟨rfl, rfl⟩ : A = A9 ∧ c = c9 := by injection hA9 with h1 h2 h3; exact ⟨h1, h3⟩
      obtain ⟨g, cx, hsl, hbg, hgl, hcl, hcmx⟩ := OwnL.at_ HOX.out (by omega)
      obtain ⟨rfl, rfl⟩ : A = some ⟨g, 0, none⟩ ∧ c = cx := by injection hsl with h1 h2 h3; exact ⟨h1, h3⟩
      obtain ⟨g9, o9, hgg, _, HC⟩ := RdAt.at_ hA (by omega)
      obtain ⟨rfl, rfl⟩ : g = g9 ∧ 0 = o9 := by cases hgg; exact ⟨rfl, rfl⟩
      obtain ⟨y9, HY9, y0, y1⟩ := cell_get HC (Below.refl _ _) hN
      obtain rfl : y9 = y := Option.some.inj (HY9.out.symm.trans HY.out)
      clear hA hA9 hsl hgg
      rw [Nat.zero_add] at y0 y1
      have hjd : decide (j < l.length) = true := decide_eq_true hN
      go_wp2_with fail
      go_quiet (fail)
      go_wp2_with fail
      go_quiet (fail)
      go_wp2
      refine bodyPost_ret (v := .agg #[.int .i64 4, .int .i64 0, .string ⟨#[]⟩, .int .i64 0, .int .i64 0]) (by simp [results, Tryz.results93, go_sem, e0, e1, e2, e3, e4]) rfl ?_
      rw [HN.out]
      refine ⟨some ⟨g, 0, none⟩, c, rfl, ?_, ?_, ?_, ?_⟩
      · iterate 5 refine row_past ?_ (by omega)
        exact X0.out
      · iterate 5 refine OwnL.set' ?_ (by intro g hg; have := HFX.out g hg; simp <;> omega) _
        exact HOX.out
      · iterate 5 refine Below.setCell ?_ (by simp <;> omega) _
        exact below_drewN hbx _
      · iterate 5 refine only_set ?_ (by first | exact .inl rfl | exact .inr (.inl rfl) | exact .inr (.inr (by simp <;> omega))) _
        exact only_below (below_drewN hbO _)
set_option maxHeartbeats 4000000 in
theorem iKeep_nonee1 (G : Nat) (k m key t : ByteArray) (v : Int) (b : Bool) (s : Value) (l : List Pu.CellD) (n : Int) (base : Nat) (w : World) (R : Pu.CoreD × Pu.ReplyD) (F : Int) (HF : Hid (Pu.kindF k.toList = F)) (hbit : bits .and .i64 F 1 = 1) (hg : w.heap[G]? = some (.cells #[.string k, .bool true, .bool b, s, .int .i64 n] 31 (0, 0) : Obj)) (hs : OwnL w base 63 2 cellEn s l) (hbG : base ≤ G) (hlen : l.length ≤ 4) (hn0 : 0 ≤ n) (hn1 : n ≤ 999) (hG : (m.toList == [71, 101, 116]) = true) (N : Nat) (hN : l.length = N) (HLOW : Hid (∀ i c, i < N → l[i]? = some c → Op.bytesLess c.key.toList key.toList = true)) (HN : Hid (R = (⟨k, true, b, l, n⟩, Pu.rp 4 0))) :
    Calls Tryz.prog 93 #[.pointer (some ⟨G, 0, none⟩), .agg #[.string m, .string key, .int .i64 v, .string t]] w fun e w' => ∃ A' c', e = .returned (replyV R.2) ∧ w'.heap[G]? = some (.cells #[.string R.1.kind, .bool R.1.on, .bool R.1.broken, .slice A' R.1.cells.length c', .int .i64 R.1.count] 31 (0, 0)) ∧ OwnL w' base 63 2 cellEn (.slice A' R.1.cells.length c') R.1.cells ∧ Below base w w' ∧ Only G s.ownBlock w w' := by
  obtain ⟨A, c, rfl⟩ := hs.shape
  have HS := hide hs
  have HFAR := hide (fun g hg => (OwnL.lt hs (g := g) hg))
  have hGs : G < w.heap.size := (Array.getElem?_eq_some_iff.1 hg).1
  have E0 := hide (show ((w.alloc (.cells #[.string m, .string key, .int .i64 v, .string t] 37 : Obj)).alloc (.cells #[.int .i64 0, .int .i64 0, .string ⟨#[]⟩, .int .i64 0, .int .i64 0] 33 : Obj)).heap[G]? = some (.cells #[.string k, .bool true, .bool b, .slice A l.length c, .int .i64 n] 31 (0, 0) : Obj) from heap_old (by simp <;> omega) (heap_old (by omega) hg))
  have HG := hide hg
  clear hs hg
  go_enter Tryz.func93, Tryz.ntmps93
  obtain ⟨_, _, _, _, _, _⟩ := five_cells E0.out
  obtain ⟨w0, hw0⟩ : ∃ w0, Hid ((w.alloc (.cells #[.string m, .string key, .int .i64 v, .string t] 37 : Obj)).alloc (.cells #[.int .i64 0, .int .i64 0, .string ⟨#[]⟩, .int .i64 0, .int .i64 0] 33 : Obj) = w0) := ⟨_, rfl⟩
  have b0 : Below w.heap.size w w0 := by rw [← hw0.out]; exact below_alloc (below_alloc (Below.refl _ _) _) _
  have Y0 := hide (show w0.heap[G]? = some (.cells #[.string k, .bool true, .bool b, .slice A l.length c, .int .i64 n] 31 (0, 0) : Obj) by rw [← hw0.out]; exact E0.out)
  have Y1 := hide (show w0.heap[w.heap.size]? = some (.cells #[.string m, .string key, .int .i64 v, .string t] 37 : Obj) by rw [← hw0.out]; exact heap_old (by simp) (heap_new rfl))
  have Y2 := hide (show w0.heap[w.heap.size + 1]? = some (.cells #[.int .i64 0, .int .i64 0, .string ⟨#[]⟩, .int .i64 0, .int .i64 0] 33 : Obj) by rw [← hw0.out]; exact heap_new (by simp))
  have HO0 := hide (OwnL.below HS.out b0 (Nat.le_refl _))
  go_wp2_with fail
  refine (iKindFace_c _ _).mono ?_; rintro e w1 ⟨rfl, rfl⟩
  rw [HF.out]
  go_wp2_with fail
  rw [hw0.out]
  go_loopw [7] (fun i wr => ∃ j : Nat, j ≤ N ∧ i = .int .i64 j ∧ Below w0.heap.size w0 wr) (fun i _ => N - (intOf i).toNat)
  case atStart => exact ⟨0, by omega, rfl, Below.refl _ _⟩
  case round =>
    obtain ⟨j, hj, rfl, hb⟩ := hrel
    have X0 := hide (row_on hb Y0.out)
    have X1 := hide (row_on hb Y1.out)
    have X2 := hide (row_on hb Y2.out)
    have HOX := hide (OwnL.below HO0.out hb (Nat.le_refl _))
    obtain ⟨_, _, _, _, _, _⟩ := five_cells X0.out
    obtain ⟨_, _, _, _, _⟩ := four_cells X1.out
    obtain ⟨e0, e1, e2, e3, e4, ef⟩ := five_cells X2.out
    have hbx : Below base w wr := (b0.trans (hb.mono b0.size)).mono (by omega)
    have hbO : Below w.heap.size w wr := b0.trans (hb.mono b0.size)
    by_cases hlt : j < N
    · obtain ⟨A9, c9, hA9, hlc, hcm, hA⟩ := RdL.open_ (OwnL.rd (size := 2) (en := cellEn) (fun _ => rfl) HOX.out)
      obtain ⟨rfl, rfl⟩ : A = A9 ∧ c = c9 := by injection hA9 with h1 h2 h3; exact ⟨h1, h3⟩
      obtain ⟨g, oo, rfl, hgl, HC⟩ := RdAt.at_ hA (by omega)
      obtain ⟨z, HZ, z0, z1⟩ := cell_get HC (Below.refl _ _) (show j < l.length by omega)
      have hzl := HLOW.out j z hlt HZ.out
      clear hA hA9
      have hjl : j < l.length := by omega
      have hjd : decide (j < l.length) = true := decide_eq_true hjl
      go_wp2_with fail
      go_quiet (fail)
      go_wp2
      go_roundw
      case rel => exact ⟨j + 1, by omega, by go_num, below_drewN hb _⟩
      case measure => simp [intOf]; omega
    · obtain rfl : j = N := by omega
      have HFX := hide (fun g hg => And.intro (own_ne HOX.out X0.out (by decide) g hg) (And.intro (own_ne HOX.out X1.out (by decide) g hg) (own_ne HOX.out X2.out (by decide) g hg)))
      have hdec : decide ((j : Int) < (l.length : Int)) = false := decide_eq_false (by omega)
      have hdl : ¬ (j : Int) < (l.length : Int) := by omega
      go_wp2_with fail
      go_quiet (fail)
      go_wp2_with fail
      go_quiet (fail)
      go_wp2
      refine bodyPost_ret (v := .agg #[.int .i64 4, .int .i64 0, .string ⟨#[]⟩, .int .i64 0, .int .i64 0]) (by simp [results, Tryz.results93, go_sem, e0, e1, e2, e3, e4]) rfl ?_
      rw [HN.out]
      refine ⟨A, c, rfl, ?_, ?_, ?_, ?_⟩
      · iterate 5 refine row_past ?_ (by omega)
        exact X0.out
      · iterate 5 refine OwnL.set' ?_ (by intro g hg; have := HFX.out g hg; simp <;> omega) _
        exact HOX.out
      · iterate 5 refine Below.setCell ?_ (by simp <;> omega) _
        exact below_drewN hbx _
      · iterate 5 refine only_set ?_ (by first | exact .inl rfl | exact .inr (.inl rfl) | exact .inr (.inr (by simp <;> omega))) _
        exact only_below (below_drewN hbO _)
set_option maxHeartbeats 4000000 in
theorem iKeep_fullm1 (G : Nat) (k m key t : ByteArray) (v : Int) (b : Bool) (s : Value) (l : List Pu.CellD) (n : Int) (base : Nat) (w : World) (R : Pu.CoreD × Pu.ReplyD) (F : Int) (HF : Hid (Pu.kindF k.toList = F)) (hbit : bits .and .i64 F 1 = 1) (hg : w.heap[G]? = some (.cells #[.string k, .bool true, .bool b, s, .int .i64 n] 31 (0, 0) : Obj)) (hs : OwnL w base 63 2 cellEn s l) (hbG : base ≤ G) (hlen : l.length ≤ 4) (hn0 : 0 ≤ n) (hn1 : n ≤ 999) (hG : (m.toList == [71, 101, 116]) = false) (N : Nat) (hN : N < l.length) (y : Pu.CellD) (HY : Hid (l[N]? = some y)) (hys : Op.bytesLess y.key.toList key.toList = false) (hyk : (y.key.toList == key.toList) = false) (HLOW : Hid (∀ i c, i < N → l[i]? = some c → Op.bytesLess c.key.toList key.toList = true)) (h4 : (4 : Int) ≤ (l.length : Int)) (HN : Hid (R = (⟨k, true, b, l, n⟩, Pu.rp 5 0))) :
    Calls Tryz.prog 93 #[.pointer (some ⟨G, 0, none⟩), .agg #[.string m, .string key, .int .i64 v, .string t]] w fun e w' => ∃ A' c', e = .returned (replyV R.2) ∧ w'.heap[G]? = some (.cells #[.string R.1.kind, .bool R.1.on, .bool R.1.broken, .slice A' R.1.cells.length c', .int .i64 R.1.count] 31 (0, 0)) ∧ OwnL w' base 63 2 cellEn (.slice A' R.1.cells.length c') R.1.cells ∧ Below base w w' ∧ Only G s.ownBlock w w' := by
  obtain ⟨A, c, rfl⟩ := hs.shape
  have HS := hide hs
  have HFAR := hide (fun g hg => (OwnL.lt hs (g := g) hg))
  have hGs : G < w.heap.size := (Array.getElem?_eq_some_iff.1 hg).1
  have E0 := hide (show ((w.alloc (.cells #[.string m, .string key, .int .i64 v, .string t] 37 : Obj)).alloc (.cells #[.int .i64 0, .int .i64 0, .string ⟨#[]⟩, .int .i64 0, .int .i64 0] 33 : Obj)).heap[G]? = some (.cells #[.string k, .bool true, .bool b, .slice A l.length c, .int .i64 n] 31 (0, 0) : Obj) from heap_old (by simp <;> omega) (heap_old (by omega) hg))
  have HG := hide hg
  clear hs hg
  go_enter Tryz.func93, Tryz.ntmps93
  obtain ⟨_, _, _, _, _, _⟩ := five_cells E0.out
  obtain ⟨w0, hw0⟩ : ∃ w0, Hid ((w.alloc (.cells #[.string m, .string key, .int .i64 v, .string t] 37 : Obj)).alloc (.cells #[.int .i64 0, .int .i64 0, .string ⟨#[]⟩, .int .i64 0, .int .i64 0] 33 : Obj) = w0) := ⟨_, rfl⟩
  have b0 : Below w.heap.size w w0 := by rw [← hw0.out]; exact below_alloc (below_alloc (Below.refl _ _) _) _
  have Y0 := hide (show w0.heap[G]? = some (.cells #[.string k, .bool true, .bool b, .slice A l.length c, .int .i64 n] 31 (0, 0) : Obj) by rw [← hw0.out]; exact E0.out)
  have Y1 := hide (show w0.heap[w.heap.size]? = some (.cells #[.string m, .string key, .int .i64 v, .string t] 37 : Obj) by rw [← hw0.out]; exact heap_old (by simp) (heap_new rfl))
  have Y2 := hide (show w0.heap[w.heap.size + 1]? = some (.cells #[.int .i64 0, .int .i64 0, .string ⟨#[]⟩, .int .i64 0, .int .i64 0] 33 : Obj) by rw [← hw0.out]; exact heap_new (by simp))
  have HO0 := hide (OwnL.below HS.out b0 (Nat.le_refl _))
  go_wp2_with fail
  refine (iKindFace_c _ _).mono ?_; rintro e w1 ⟨rfl, rfl⟩
  rw [HF.out]
  go_wp2_with fail
  rw [hw0.out]
  go_loopw [7] (fun i wr => ∃ j : Nat, j ≤ N ∧ i = .int .i64 j ∧ Below w0.heap.size w0 wr) (fun i _ => N - (intOf i).toNat)
  case atStart => exact ⟨0, by omega, rfl, Below.refl _ _⟩
  case round =>
    obtain ⟨j, hj, rfl, hb⟩ := hrel
    have X0 := hide (row_on hb Y0.out)
    have X1 := hide (row_on hb Y1.out)
    have X2 := hide (row_on hb Y2.out)
    have HOX := hide (OwnL.below HO0.out hb (Nat.le_refl _))
    obtain ⟨_, _, _, _, _, _⟩ := five_cells X0.out
    obtain ⟨_, _, _, _, _⟩ := four_cells X1.out
    obtain ⟨e0, e1, e2, e3, e4, ef⟩ := five_cells X2.out
    have hbx : Below base w wr := (b0.trans (hb.mono b0.size)).mono (by omega)
    have hbO : Below w.heap.size w wr := b0.trans (hb.mono b0.size)
    by_cases hlt : j < N
    · obtain ⟨A9, c9, hA9, hlc, hcm, hA⟩ := RdL.open_ (OwnL.rd (size := 2) (en := cellEn) (fun _ => rfl) HOX.out)
      obtain ⟨rfl, rfl⟩ : A = A9 ∧ c = c9 := by injection hA9 with h1 h2 h3; exact ⟨h1, h3⟩
      obtain ⟨g, oo, rfl, hgl, HC⟩ := RdAt.at_ hA (by omega)
      obtain ⟨z, HZ, z0, z1⟩ := cell_get HC (Below.refl _ _) (show j < l.length by omega)
      have hzl := HLOW.out j z hlt HZ.out
      clear hA hA9
      have hjl : j < l.length := by omega
      have hjd : decide (j < l.length) = true := decide_eq_true hjl
      go_wp2_with fail
      go_quiet (fail)
      go_wp2
      go_roundw
      case rel => exact ⟨j + 1, by omega, by go_num, below_drewN hb _⟩
      case measure => simp [intOf]; omega
    · obtain rfl : j = N := by omega
      have HFX := hide (fun g hg => And.intro (own_ne HOX.out X0.out (by decide) g hg) (And.intro (own_ne HOX.out X1.out (by decide) g hg) (own_ne HOX.out X2.out (by decide) g hg)))
      obtain ⟨A9, c9, hA9, hlc, hcm, hA⟩ := RdL.open_ (OwnL.rd (size := 2) (en := cellEn) (fun _ => rfl) HOX.out)
      obtain ⟨rfl, rfl⟩ : A = A9 ∧ c = c9 := by injection hA9 with h1 h2 h3; exact ⟨h1, h3⟩
      obtain ⟨g, cx, hsl, hbg, hgl, hcl, hcmx⟩ := OwnL.at_ HOX.out (by omega)
      obtain ⟨rfl, rfl⟩ : A = some ⟨g, 0, none⟩ ∧ c = cx := by injection hsl with h1 h2 h3; exact ⟨h1, h3⟩
      obtain ⟨g9, o9, hgg, _, HC⟩ := RdAt.at_ hA (by omega)
      obtain ⟨rfl, rfl⟩ : g = g9 ∧ 0 = o9 := by cases hgg; exact ⟨rfl, rfl⟩
      obtain ⟨y9, HY9, y0, y1⟩ := cell_get HC (Below.refl _ _) hN
      obtain rfl : y9 = y := Option.some.inj (HY9.out.symm.trans HY.out)
      clear hA hA9 hsl hgg
      rw [Nat.zero_add] at y0 y1
      have hjd : decide (j < l.length) = true := decide_eq_true hN
      go_wp2_with fail
      go_quiet (fail)
      go_wp2_with fail
      go_quiet (fail)
      go_wp2
      refine bodyPost_ret (v := .agg #[.int .i64 5, .int .i64 0, .string ⟨#[]⟩, .int .i64 0, .int .i64 0]) (by simp [results, Tryz.results93, go_sem, e0, e1, e2, e3, e4]) rfl ?_
      rw [HN.out]
      refine ⟨some ⟨g, 0, none⟩, c, rfl, ?_, ?_, ?_, ?_⟩
      · iterate 5 refine row_past ?_ (by omega)
        exact X0.out
      · iterate 5 refine OwnL.set' ?_ (by intro g hg; have := HFX.out g hg; simp <;> omega) _
        exact HOX.out
      · iterate 5 refine Below.setCell ?_ (by simp <;> omega) _
        exact below_drewN hbx _
      · iterate 5 refine only_set ?_ (by first | exact .inl rfl | exact .inr (.inl rfl) | exact .inr (.inr (by simp <;> omega))) _
        exact only_below (below_drewN hbO _)
set_option maxHeartbeats 4000000 in
theorem iKeep_fulle1 (G : Nat) (k m key t : ByteArray) (v : Int) (b : Bool) (s : Value) (l : List Pu.CellD) (n : Int) (base : Nat) (w : World) (R : Pu.CoreD × Pu.ReplyD) (F : Int) (HF : Hid (Pu.kindF k.toList = F)) (hbit : bits .and .i64 F 1 = 1) (hg : w.heap[G]? = some (.cells #[.string k, .bool true, .bool b, s, .int .i64 n] 31 (0, 0) : Obj)) (hs : OwnL w base 63 2 cellEn s l) (hbG : base ≤ G) (hlen : l.length ≤ 4) (hn0 : 0 ≤ n) (hn1 : n ≤ 999) (hG : (m.toList == [71, 101, 116]) = false) (N : Nat) (hN : l.length = N) (HLOW : Hid (∀ i c, i < N → l[i]? = some c → Op.bytesLess c.key.toList key.toList = true)) (h4 : (4 : Int) ≤ (l.length : Int)) (HN : Hid (R = (⟨k, true, b, l, n⟩, Pu.rp 5 0))) :
    Calls Tryz.prog 93 #[.pointer (some ⟨G, 0, none⟩), .agg #[.string m, .string key, .int .i64 v, .string t]] w fun e w' => ∃ A' c', e = .returned (replyV R.2) ∧ w'.heap[G]? = some (.cells #[.string R.1.kind, .bool R.1.on, .bool R.1.broken, .slice A' R.1.cells.length c', .int .i64 R.1.count] 31 (0, 0)) ∧ OwnL w' base 63 2 cellEn (.slice A' R.1.cells.length c') R.1.cells ∧ Below base w w' ∧ Only G s.ownBlock w w' := by
  obtain ⟨A, c, rfl⟩ := hs.shape
  have HS := hide hs
  have HFAR := hide (fun g hg => (OwnL.lt hs (g := g) hg))
  have hGs : G < w.heap.size := (Array.getElem?_eq_some_iff.1 hg).1
  have E0 := hide (show ((w.alloc (.cells #[.string m, .string key, .int .i64 v, .string t] 37 : Obj)).alloc (.cells #[.int .i64 0, .int .i64 0, .string ⟨#[]⟩, .int .i64 0, .int .i64 0] 33 : Obj)).heap[G]? = some (.cells #[.string k, .bool true, .bool b, .slice A l.length c, .int .i64 n] 31 (0, 0) : Obj) from heap_old (by simp <;> omega) (heap_old (by omega) hg))
  have HG := hide hg
  clear hs hg
  go_enter Tryz.func93, Tryz.ntmps93
  obtain ⟨_, _, _, _, _, _⟩ := five_cells E0.out
  obtain ⟨w0, hw0⟩ : ∃ w0, Hid ((w.alloc (.cells #[.string m, .string key, .int .i64 v, .string t] 37 : Obj)).alloc (.cells #[.int .i64 0, .int .i64 0, .string ⟨#[]⟩, .int .i64 0, .int .i64 0] 33 : Obj) = w0) := ⟨_, rfl⟩
  have b0 : Below w.heap.size w w0 := by rw [← hw0.out]; exact below_alloc (below_alloc (Below.refl _ _) _) _
  have Y0 := hide (show w0.heap[G]? = some (.cells #[.string k, .bool true, .bool b, .slice A l.length c, .int .i64 n] 31 (0, 0) : Obj) by rw [← hw0.out]; exact E0.out)
  have Y1 := hide (show w0.heap[w.heap.size]? = some (.cells #[.string m, .string key, .int .i64 v, .string t] 37 : Obj) by rw [← hw0.out]; exact heap_old (by simp) (heap_new rfl))
  have Y2 := hide (show w0.heap[w.heap.size + 1]? = some (.cells #[.int .i64 0, .int .i64 0, .string ⟨#[]⟩, .int .i64 0, .int .i64 0] 33 : Obj) by rw [← hw0.out]; exact heap_new (by simp))
  have HO0 := hide (OwnL.below HS.out b0 (Nat.le_refl _))
  go_wp2_with fail
  refine (iKindFace_c _ _).mono ?_; rintro e w1 ⟨rfl, rfl⟩
  rw [HF.out]
  go_wp2_with fail
  rw [hw0.out]
  go_loopw [7] (fun i wr => ∃ j : Nat, j ≤ N ∧ i = .int .i64 j ∧ Below w0.heap.size w0 wr) (fun i _ => N - (intOf i).toNat)
  case atStart => exact ⟨0, by omega, rfl, Below.refl _ _⟩
  case round =>
    obtain ⟨j, hj, rfl, hb⟩ := hrel
    have X0 := hide (row_on hb Y0.out)
    have X1 := hide (row_on hb Y1.out)
    have X2 := hide (row_on hb Y2.out)
    have HOX := hide (OwnL.below HO0.out hb (Nat.le_refl _))
    obtain ⟨_, _, _, _, _, _⟩ := five_cells X0.out
    obtain ⟨_, _, _, _, _⟩ := four_cells X1.out
    obtain ⟨e0, e1, e2, e3, e4, ef⟩ := five_cells X2.out
    have hbx : Below base w wr := (b0.trans (hb.mono b0.size)).mono (by omega)
    have hbO : Below w.heap.size w wr := b0.trans (hb.mono b0.size)
    by_cases hlt : j < N
    · obtain ⟨A9, c9, hA9, hlc, hcm, hA⟩ := RdL.open_ (OwnL.rd (size := 2) (en := cellEn) (fun _ => rfl) HOX.out)
      obtain ⟨rfl, rfl⟩ : A = A9 ∧ c = c9 := by injection hA9 with h1 h2 h3; exact ⟨h1, h3⟩
      obtain ⟨g, oo, rfl, hgl, HC⟩ := RdAt.at_ hA (by omega)
      obtain ⟨z, HZ, z0, z1⟩ := cell_get HC (Below.refl _ _) (show j < l.length by omega)
      have hzl := HLOW.out j z hlt HZ.out
      clear hA hA9
      have hjl : j < l.length := by omega
      have hjd : decide (j < l.length) = true := decide_eq_true hjl
      go_wp2_with fail
      go_quiet (fail)
      go_wp2
      go_roundw
      case rel => exact ⟨j + 1, by omega, by go_num, below_drewN hb _⟩
      case measure => simp [intOf]; omega
    · obtain rfl : j = N := by omega
      have HFX := hide (fun g hg => And.intro (own_ne HOX.out X0.out (by decide) g hg) (And.intro (own_ne HOX.out X1.out (by decide) g hg) (own_ne HOX.out X2.out (by decide) g hg)))
      have hdec : decide ((j : Int) < (l.length : Int)) = false := decide_eq_false (by omega)
      have hdl : ¬ (j : Int) < (l.length : Int) := by omega
      go_wp2_with fail
      go_quiet (fail)
      go_wp2_with fail
      go_quiet (fail)
      go_wp2
      refine bodyPost_ret (v := .agg #[.int .i64 5, .int .i64 0, .string ⟨#[]⟩, .int .i64 0, .int .i64 0]) (by simp [results, Tryz.results93, go_sem, e0, e1, e2, e3, e4]) rfl ?_
      rw [HN.out]
      refine ⟨A, c, rfl, ?_, ?_, ?_, ?_⟩
      · iterate 5 refine row_past ?_ (by omega)
        exact X0.out
      · iterate 5 refine OwnL.set' ?_ (by intro g hg; have := HFX.out g hg; simp <;> omega) _
        exact HOX.out
      · iterate 5 refine Below.setCell ?_ (by simp <;> omega) _
        exact below_drewN hbx _
      · iterate 5 refine only_set ?_ (by first | exact .inl rfl | exact .inr (.inl rfl) | exact .inr (.inr (by simp <;> omega))) _
        exact only_below (below_drewN hbO _)
set_option maxHeartbeats 4000000 in
theorem iKeep_got1 (G : Nat) (k m key t : ByteArray) (v : Int) (b : Bool) (s : Value) (l : List Pu.CellD) (n : Int) (base : Nat) (w : World) (R : Pu.CoreD × Pu.ReplyD) (F : Int) (HF : Hid (Pu.kindF k.toList = F)) (hbit : bits .and .i64 F 1 = 1) (hg : w.heap[G]? = some (.cells #[.string k, .bool true, .bool b, s, .int .i64 n] 31 (0, 0) : Obj)) (hs : OwnL w base 63 2 cellEn s l) (hbG : base ≤ G) (hlen : l.length ≤ 4) (hn0 : 0 ≤ n) (hn1 : n ≤ 999) (hG : (m.toList == [71, 101, 116]) = true) (N : Nat) (hN : N < l.length) (y : Pu.CellD) (HY : Hid (l[N]? = some y)) (hys : Op.bytesLess y.key.toList key.toList = false) (hyk : (y.key.toList == key.toList) = true) (HLOW : Hid (∀ i c, i < N → l[i]? = some c → Op.bytesLess c.key.toList key.toList = true)) (HN : Hid (R = (⟨k, true, b, l, n⟩, Pu.rp 0 y.val))) :
    Calls Tryz.prog 93 #[.pointer (some ⟨G, 0, none⟩), .agg #[.string m, .string key, .int .i64 v, .string t]] w fun e w' => ∃ A' c', e = .returned (replyV R.2) ∧ w'.heap[G]? = some (.cells #[.string R.1.kind, .bool R.1.on, .bool R.1.broken, .slice A' R.1.cells.length c', .int .i64 R.1.count] 31 (0, 0)) ∧ OwnL w' base 63 2 cellEn (.slice A' R.1.cells.length c') R.1.cells ∧ Below base w w' ∧ Only G s.ownBlock w w' := by
  obtain ⟨A, c, rfl⟩ := hs.shape
  have HS := hide hs
  have HFAR := hide (fun g hg => (OwnL.lt hs (g := g) hg))
  have hGs : G < w.heap.size := (Array.getElem?_eq_some_iff.1 hg).1
  have E0 := hide (show ((w.alloc (.cells #[.string m, .string key, .int .i64 v, .string t] 37 : Obj)).alloc (.cells #[.int .i64 0, .int .i64 0, .string ⟨#[]⟩, .int .i64 0, .int .i64 0] 33 : Obj)).heap[G]? = some (.cells #[.string k, .bool true, .bool b, .slice A l.length c, .int .i64 n] 31 (0, 0) : Obj) from heap_old (by simp <;> omega) (heap_old (by omega) hg))
  have HG := hide hg
  clear hs hg
  go_enter Tryz.func93, Tryz.ntmps93
  obtain ⟨_, _, _, _, _, _⟩ := five_cells E0.out
  obtain ⟨w0, hw0⟩ : ∃ w0, Hid ((w.alloc (.cells #[.string m, .string key, .int .i64 v, .string t] 37 : Obj)).alloc (.cells #[.int .i64 0, .int .i64 0, .string ⟨#[]⟩, .int .i64 0, .int .i64 0] 33 : Obj) = w0) := ⟨_, rfl⟩
  have b0 : Below w.heap.size w w0 := by rw [← hw0.out]; exact below_alloc (below_alloc (Below.refl _ _) _) _
  have Y0 := hide (show w0.heap[G]? = some (.cells #[.string k, .bool true, .bool b, .slice A l.length c, .int .i64 n] 31 (0, 0) : Obj) by rw [← hw0.out]; exact E0.out)
  have Y1 := hide (show w0.heap[w.heap.size]? = some (.cells #[.string m, .string key, .int .i64 v, .string t] 37 : Obj) by rw [← hw0.out]; exact heap_old (by simp) (heap_new rfl))
  have Y2 := hide (show w0.heap[w.heap.size + 1]? = some (.cells #[.int .i64 0, .int .i64 0, .string ⟨#[]⟩, .int .i64 0, .int .i64 0] 33 : Obj) by rw [← hw0.out]; exact heap_new (by simp))
  have HO0 := hide (OwnL.below HS.out b0 (Nat.le_refl _))
  go_wp2_with fail
  refine (iKindFace_c _ _).mono ?_; rintro e w1 ⟨rfl, rfl⟩
  rw [HF.out]
  go_wp2_with fail
  rw [hw0.out]
  go_loopw [7] (fun i wr => ∃ j : Nat, j ≤ N ∧ i = .int .i64 j ∧ Below w0.heap.size w0 wr) (fun i _ => N - (intOf i).toNat)
  case atStart => exact ⟨0, by omega, rfl, Below.refl _ _⟩
  case round =>
    obtain ⟨j, hj, rfl, hb⟩ := hrel
    have X0 := hide (row_on hb Y0.out)
    have X1 := hide (row_on hb Y1.out)
    have X2 := hide (row_on hb Y2.out)
    have HOX := hide (OwnL.below HO0.out hb (Nat.le_refl _))
    obtain ⟨_, _, _, _, _, _⟩ := five_cells X0.out
    obtain ⟨_, _, _, _, _⟩ := four_cells X1.out
    obtain ⟨e0, e1, e2, e3, e4, ef⟩ := five_cells X2.out
    have hbx : Below base w wr := (b0.trans (hb.mono b0.size)).mono (by omega)
    have hbO : Below w.heap.size w wr := b0.trans (hb.mono b0.size)
    by_cases hlt : j < N
    · obtain ⟨A9, c9, hA9, hlc, hcm, hA⟩ := RdL.open_ (OwnL.rd (size := 2) (en := cellEn) (fun _ => rfl) HOX.out)
      obtain ⟨rfl, rfl⟩ : A = A9 ∧ c = c9 := by injection hA9 with h1 h2 h3; exact ⟨h1, h3⟩
      obtain ⟨g, oo, rfl, hgl, HC⟩ := RdAt.at_ hA (by omega)
      obtain ⟨z, HZ, z0, z1⟩ := cell_get HC (Below.refl _ _) (show j < l.length by omega)
      have hzl := HLOW.out j z hlt HZ.out
      clear hA hA9
      have hjl : j < l.length := by omega
      have hjd : decide (j < l.length) = true := decide_eq_true hjl
      go_wp2_with fail
      go_quiet (fail)
      go_wp2
      go_roundw
      case rel => exact ⟨j + 1, by omega, by go_num, below_drewN hb _⟩
      case measure => simp [intOf]; omega
    · obtain rfl : j = N := by omega
      have HFX := hide (fun g hg => And.intro (own_ne HOX.out X0.out (by decide) g hg) (And.intro (own_ne HOX.out X1.out (by decide) g hg) (own_ne HOX.out X2.out (by decide) g hg)))
      obtain ⟨A9, c9, hA9, hlc, hcm, hA⟩ := RdL.open_ (OwnL.rd (size := 2) (en := cellEn) (fun _ => rfl) HOX.out)
      obtain ⟨rfl, rfl⟩ : A = A9 ∧ c = c9 := by injection hA9 with h1 h2 h3; exact ⟨h1, h3⟩
      obtain ⟨g, cx, hsl, hbg, hgl, hcl, hcmx⟩ := OwnL.at_ HOX.out (by omega)
      obtain ⟨rfl, rfl⟩ : A = some ⟨g, 0, none⟩ ∧ c = cx := by injection hsl with h1 h2 h3; exact ⟨h1, h3⟩
      obtain ⟨g9, o9, hgg, _, HC⟩ := RdAt.at_ hA (by omega)
      obtain ⟨rfl, rfl⟩ : g = g9 ∧ 0 = o9 := by cases hgg; exact ⟨rfl, rfl⟩
      obtain ⟨y9, HY9, y0, y1⟩ := cell_get HC (Below.refl _ _) hN
      obtain rfl : y9 = y := Option.some.inj (HY9.out.symm.trans HY.out)
      clear hA hA9 hsl hgg
      rw [Nat.zero_add] at y0 y1
      have hjd : decide (j < l.length) = true := decide_eq_true hN
      go_wp2_with fail
      go_quiet (fail)
      go_wp2_with fail
      go_quiet (fail)
      go_wp2
      refine bodyPost_ret (v := .agg #[.int .i64 0, .int .i64 y9.val, .string ⟨#[]⟩, .int .i64 0, .int .i64 0]) (by simp [results, Tryz.results93, go_sem, e0, e1, e2, e3, e4]) rfl ?_
      rw [HN.out]
      refine ⟨some ⟨g, 0, none⟩, c, rfl, ?_, ?_, ?_, ?_⟩
      · iterate 5 refine row_past ?_ (by omega)
        exact X0.out
      · iterate 5 refine OwnL.set' ?_ (by intro g hg; have := HFX.out g hg; simp <;> omega) _
        exact HOX.out
      · iterate 5 refine Below.setCell ?_ (by simp <;> omega) _
        exact below_drewN hbx _
      · iterate 5 refine only_set ?_ (by first | exact .inl rfl | exact .inr (.inl rfl) | exact .inr (.inr (by simp <;> omega))) _
        exact only_below (below_drewN hbO _)
set_option maxHeartbeats 4000000 in
theorem iKeep_set1 (G : Nat) (k m key t : ByteArray) (v : Int) (b : Bool) (s : Value) (l : List Pu.CellD) (n : Int) (base : Nat) (w : World) (R : Pu.CoreD × Pu.ReplyD) (F : Int) (HF : Hid (Pu.kindF k.toList = F)) (hbit : bits .and .i64 F 1 = 1) (hg : w.heap[G]? = some (.cells #[.string k, .bool true, .bool b, s, .int .i64 n] 31 (0, 0) : Obj)) (hs : OwnL w base 63 2 cellEn s l) (hbG : base ≤ G) (hlen : l.length ≤ 4) (hn0 : 0 ≤ n) (hn1 : n ≤ 999) (hG : (m.toList == [71, 101, 116]) = false) (N : Nat) (hN : N < l.length) (y : Pu.CellD) (HY : Hid (l[N]? = some y)) (hys : Op.bytesLess y.key.toList key.toList = false) (hyk : (y.key.toList == key.toList) = true) (HLOW : Hid (∀ i c, i < N → l[i]? = some c → Op.bytesLess c.key.toList key.toList = true)) (L : List Pu.CellD) (HL : Hid (L.length = l.length ∧ (l.flatMap cellEn).set (N * 2 + 1) (.int .i64 v) = L.flatMap cellEn)) (HN : Hid (R = (⟨k, true, b, L, Pu.upF n⟩, Pu.rp 0 L.length))) :
    Calls Tryz.prog 93 #[.pointer (some ⟨G, 0, none⟩), .agg #[.string m, .string key, .int .i64 v, .string t]] w fun e w' => ∃ A' c', e = .returned (replyV R.2) ∧ w'.heap[G]? = some (.cells #[.string R.1.kind, .bool R.1.on, .bool R.1.broken, .slice A' R.1.cells.length c', .int .i64 R.1.count] 31 (0, 0)) ∧ OwnL w' base 63 2 cellEn (.slice A' R.1.cells.length c') R.1.cells ∧ Below base w w' ∧ Only G s.ownBlock w w' := by
  obtain ⟨A, c, rfl⟩ := hs.shape
  have HS := hide hs
  have HFAR := hide (fun g hg => (OwnL.lt hs (g := g) hg))
  have hGs : G < w.heap.size := (Array.getElem?_eq_some_iff.1 hg).1
  have E0 := hide (show ((w.alloc (.cells #[.string m, .string key, .int .i64 v, .string t] 37 : Obj)).alloc (.cells #[.int .i64 0, .int .i64 0, .string ⟨#[]⟩, .int .i64 0, .int .i64 0] 33 : Obj)).heap[G]? = some (.cells #[.string k, .bool true, .bool b, .slice A l.length c, .int .i64 n] 31 (0, 0) : Obj) from heap_old (by simp <;> omega) (heap_old (by omega) hg))
  have HG := hide hg
  clear hs hg
  go_enter Tryz.func93, Tryz.ntmps93
  obtain ⟨_, _, _, _, _, _⟩ := five_cells E0.out
  obtain ⟨w0, hw0⟩ : ∃ w0, Hid ((w.alloc (.cells #[.string m, .string key, .int .i64 v, .string t] 37 : Obj)).alloc (.cells #[.int .i64 0, .int .i64 0, .string ⟨#[]⟩, .int .i64 0, .int .i64 0] 33 : Obj) = w0) := ⟨_, rfl⟩
  have b0 : Below w.heap.size w w0 := by rw [← hw0.out]; exact below_alloc (below_alloc (Below.refl _ _) _) _
  have Y0 := hide (show w0.heap[G]? = some (.cells #[.string k, .bool true, .bool b, .slice A l.length c, .int .i64 n] 31 (0, 0) : Obj) by rw [← hw0.out]; exact E0.out)
  have Y1 := hide (show w0.heap[w.heap.size]? = some (.cells #[.string m, .string key, .int .i64 v, .string t] 37 : Obj) by rw [← hw0.out]; exact heap_old (by simp) (heap_new rfl))
  have Y2 := hide (show w0.heap[w.heap.size + 1]? = some (.cells #[.int .i64 0, .int .i64 0, .string ⟨#[]⟩, .int .i64 0, .int .i64 0] 33 : Obj) by rw [← hw0.out]; exact heap_new (by simp))
  have HO0 := hide (OwnL.below HS.out b0 (Nat.le_refl _))
  go_wp2_with fail
  refine (iKindFace_c _ _).mono ?_; rintro e w1 ⟨rfl, rfl⟩
  rw [HF.out]
  go_wp2_with fail
  rw [hw0.out]
  go_loopw [7] (fun i wr => ∃ j : Nat, j ≤ N ∧ i = .int .i64 j ∧ Below w0.heap.size w0 wr) (fun i _ => N - (intOf i).toNat)
  case atStart => exact ⟨0, by omega, rfl, Below.refl _ _⟩
  case round =>
    obtain ⟨j, hj, rfl, hb⟩ := hrel
    have X0 := hide (row_on hb Y0.out)
    have X1 := hide (row_on hb Y1.out)
    have X2 := hide (row_on hb Y2.out)
    have HOX := hide (OwnL.below HO0.out hb (Nat.le_refl _))
    obtain ⟨_, _, _, _, _, _⟩ := five_cells X0.out
    obtain ⟨_, _, _, _, _⟩ := four_cells X1.out
    obtain ⟨e0, e1, e2, e3, e4, ef⟩ := five_cells X2.out
    have hbx : Below base w wr := (b0.trans (hb.mono b0.size)).mono (by omega)
    have hbO : Below w.heap.size w wr := b0.trans (hb.mono b0.size)
    by_cases hlt : j < N
    · obtain ⟨A9, c9, hA9, hlc, hcm, hA⟩ := RdL.open_ (OwnL.rd (size := 2) (en := cellEn) (fun _ => rfl) HOX.out)
      obtain ⟨rfl, rfl⟩ : A = A9 ∧ c = c9 := by injection hA9 with h1 h2 h3; exact ⟨h1, h3⟩
      obtain ⟨g, oo, rfl, hgl, HC⟩ := RdAt.at_ hA (by omega)
      obtain ⟨z, HZ, z0, z1⟩ := cell_get HC (Below.refl _ _) (show j < l.length by omega)
      have hzl := HLOW.out j z hlt HZ.out
      clear hA hA9
      have hjl : j < l.length := by omega
      have hjd : decide (j < l.length) = true := decide_eq_true hjl
      go_wp2_with fail
      go_quiet (fail)
      go_wp2
      go_roundw
      case rel => exact ⟨j + 1, by omega, by go_num, below_drewN hb _⟩
      case measure => simp [intOf]; omega
    · obtain rfl : j = N := by omega
      have HFX := hide (fun g hg => And.intro (own_ne HOX.out X0.out (by decide) g hg) (And.intro (own_ne HOX.out X1.out (by decide) g hg) (own_ne HOX.out X2.out (by decide) g hg)))
      obtain ⟨A9, c9, hA9, hlc, hcm, hA⟩ := RdL.open_ (OwnL.rd (size := 2) (en := cellEn) (fun _ => rfl) HOX.out)
      obtain ⟨rfl, rfl⟩ : A = A9 ∧ c = c9 := by injection hA9 with h1 h2 h3; exact ⟨h1, h3⟩
      obtain ⟨g, cx, hsl, hbg, hgl, hcl, hcmx⟩ := OwnL.at_ HOX.out (by omega)
      obtain ⟨rfl, rfl⟩ : A = some ⟨g, 0, none⟩ ∧ c = cx := by injection hsl with h1 h2 h3; exact ⟨h1, h3⟩
      obtain ⟨g9, o9, hgg, _, HC⟩ := RdAt.at_ hA (by omega)
      obtain ⟨rfl, rfl⟩ : g = g9 ∧ 0 = o9 := by cases hgg; exact ⟨rfl, rfl⟩
      obtain ⟨y9, HY9, y0, y1⟩ := cell_get HC (Below.refl _ _) hN
      obtain rfl : y9 = y := Option.some.inj (HY9.out.symm.trans HY.out)
      clear hA hA9 hsl hgg
      rw [Nat.zero_add] at y0 y1
      have hjd : decide (j < l.length) = true := decide_eq_true hN
      have hf1 := World.ownsRow.frozenAt HOX.out (j * 2 + 1)
      go_wp2_with fail
      go_quiet (fail)
      revert nq; intro q1
      go_wp2_with fail
      go_quiet (fail)
      revert nq; intro q2
      go_wp2_with fail
      go_region
      obtain ⟨w3, hw3⟩ : ∃ w3, Hid (((wr.drewN (q1 + q2 + 1)).setCell ⟨g, j * 2 + 1, none⟩ (.int .i64 v)) = w3) := ⟨_, rfl⟩
      rw [hw3.out]
      obtain ⟨s3, _⟩ := World.ownsRow.stored (w := wr.drewN (q1 + q2 + 1)) HOX.out (j * 2 + 1) (.int .i64 v)
      rw [HL.out.2, hw3.out] at s3
      have O3 : OwnL w3 base 63 2 cellEn (.slice (some ⟨g, 0, none⟩) L.length c) L := by unfold OwnL; rw [HL.out.1]; exact s3
      have HO3 := hide O3
      have hb3 : Below base w w3 := by rw [← hw3.out]; exact Below.setCell (below_drewN hbx _) hbg _
      have V0 := hide (show w3.heap[G]? = some (.cells #[.string k, .bool true, .bool b, .slice (some ⟨g, 0, none⟩) l.length c, .int .i64 n] 31 (0, 0) : Obj) by rw [← hw3.out]; exact row_past X0.out (by have := (HFX.out g rfl).1; omega))
      have V2 := hide (show w3.heap[w.heap.size + 1]? = some (.cells #[.int .i64 0, .int .i64 0, .string ⟨#[]⟩, .int .i64 0, .int .i64 0] 33 : Obj) by rw [← hw3.out]; exact row_past X2.out (by have := (HFX.out g rfl).2.2; omega))
      have HFY := hide (fun g hg => And.intro (own_ne O3 V0.out (by decide) g hg) (own_ne O3 V2.out (by decide) g hg))
      clear s3 O3
      obtain ⟨_, _, _, _, _, _⟩ := five_cells V0.out
      obtain ⟨e0, e1, e2, e3, e4, ef⟩ := five_cells V2.out
      have hne1 : ¬ G = w.heap.size + 1 := by omega
      have hne2 : ¬ w.heap.size + 1 = G := by omega
      go_wp2_with fail
      refine (countUp_c n _ hn0 hn1).mono ?_; rintro e w4 ⟨rfl, rfl⟩
      go_wp2
      refine bodyPost_ret (v := .agg #[.int .i64 0, .int .i64 l.length, .string ⟨#[]⟩, .int .i64 0, .int .i64 0]) (by simp [results, Tryz.results93, go_sem, e0, e1, e2, e3, e4]) rfl ?_
      rw [HN.out]
      dsimp only
      refine ⟨some ⟨g, 0, none⟩, c, by rw [HL.out.1]; rfl, ?_, ?_, ?_, ?_⟩
      · iterate 5 refine row_past ?_ (by omega)
        rw [HL.out.1]
        exact (row5_set V0.out).2.2.2
      · iterate 6 refine OwnL.set' ?_ (by intro g hg; have := HFY.out g hg; simp <;> omega) _
        exact HO3.out
      · iterate 6 refine Below.setCell ?_ (by simp <;> omega) _
        exact hb3
      · iterate 6 refine only_set ?_ (by first | exact .inl rfl | exact .inr (.inl rfl) | exact .inr (.inr (by simp <;> omega))) _
        rw [← hw3.out]
        exact only_set (a := ⟨g, j * 2 + 1, none⟩) (r := (Value.slice (some ⟨g, 0, none⟩) l.length c).ownBlock) (only_below (below_drewN hbO (q1 + q2 + 1))) (.inr (.inl rfl)) _
end Go.Proofs.YtllmcnmongaahaaGreatDoor
