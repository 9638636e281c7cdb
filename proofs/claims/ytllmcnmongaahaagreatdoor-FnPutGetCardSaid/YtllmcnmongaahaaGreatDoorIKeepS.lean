/- Contracts: what the reference's calls do to a core (keepCall: a cell is put in). Written by wip/tools/keepgen.py. -/
import Derived.Test.YtllmcnmongaahaaGreatDoorM2
import Derived.Test.YtllmcnmongaahaaGreatDoorM0
import Derived.Deep.CutBlock
namespace Go.Proofs.YtllmcnmongaahaaGreatDoor
open Go.ChangeShapes Go.WideShapes Go.ChangeAt Go.RowKit
set_option maxRecDepth 100000
set_option linter.unusedVariables false
set_option maxHeartbeats 4000000 in
theorem iKeep_inss (G : Nat) (k m key t : ByteArray) (v : Int) (o b : Bool) (gs c N : Nat) (l : List Pu.CellD) (n : Int) (base : Nat) (w : World) (R : Pu.CoreD × Pu.ReplyD) (F : Int) (HF : Hid (Pu.kindF k.toList = F)) (hrr : bits .and .i64 F 1 = 0 ∨ (bits .and .i64 F 1 = 1 ∧ o = true)) (hg : w.heap[G]? = some (.cells #[.string k, .bool o, .bool b, .slice (some ⟨gs, 0, none⟩) N c, .int .i64 n] 31 (0, 0) : Obj)) (hs : OwnL w base 63 2 cellEn (.slice (some ⟨gs, 0, none⟩) N c) l) (hbG : base ≤ G) (hlen : N ≤ 4) (hn0 : 0 ≤ n) (hn1 : n ≤ 999) (hG : (m.toList == [71, 101, 116]) = false) (hN : Hid (l.length = N)) (HLOW : Hid (∀ i c, i < N → l[i]? = some c → Op.bytesLess c.key.toList key.toList = true)) (h4 : ¬ (4 : Int) ≤ (N : Int)) (L : List Pu.CellD) (HL : Hid (l.take N ++ [⟨key, v⟩] ++ l.drop N = L)) (HN : Hid (R = (⟨k, o, b, L, Pu.upF n⟩, Pu.rp 0 L.length))) :
    Calls Tryz.prog 93 #[.pointer (some ⟨G, 0, none⟩), .agg #[.string m, .string key, .int .i64 v, .string t]] w fun e w' => ∃ A' c', e = .returned (replyV R.2) ∧ w'.heap[G]? = some (.cells #[.string R.1.kind, .bool R.1.on, .bool R.1.broken, .slice A' R.1.cells.length c', .int .i64 R.1.count] 31 (0, 0)) ∧ OwnL w' base 63 2 cellEn (.slice A' R.1.cells.length c') R.1.cells ∧ Below base w w' ∧ Only G (Value.slice (some ⟨gs, 0, none⟩) N c).ownBlock w w' := by
  obtain ⟨i0, hi, hz0, hz1, hz2⟩ := info_parts info_cell
  obtain ⟨A8, c8, hcc, hcl, hcm9, _⟩ := RdL.open_ (OwnL.rd (size := 2) (en := cellEn) (fun _ => rfl) hs)
  obtain rfl : c = c8 := by injection hcc
  clear hcc
  rw [hN.out] at hcl
  have HS := hide hs
  have HFAR := hide (fun g hg => (OwnL.lt hs (g := g) hg))
  have hGs : G < w.heap.size := (Array.getElem?_eq_some_iff.1 hg).1
  have E0 := hide (show ((w.alloc (.cells #[.string m, .string key, .int .i64 v, .string t] 37 : Obj)).alloc (.cells #[.int .i64 0, .int .i64 0, .string ⟨#[]⟩, .int .i64 0, .int .i64 0] 33 : Obj)).heap[G]? = some (.cells #[.string k, .bool o, .bool b, .slice (some ⟨gs, 0, none⟩) N c, .int .i64 n] 31 (0, 0) : Obj) from heap_old (by simp <;> omega) (heap_old (by omega) hg))
  have HG := hide hg
  clear hs hg
  go_enter Tryz.func93, Tryz.ntmps93
  obtain ⟨_, _, _, _, _, _⟩ := five_cells E0.out
  obtain ⟨w0, hw0⟩ : ∃ w0, Hid ((w.alloc (.cells #[.string m, .string key, .int .i64 v, .string t] 37 : Obj)).alloc (.cells #[.int .i64 0, .int .i64 0, .string ⟨#[]⟩, .int .i64 0, .int .i64 0] 33 : Obj) = w0) := ⟨_, rfl⟩
  have b0 : Below w.heap.size w w0 := by rw [← hw0.out]; exact below_alloc (below_alloc (Below.refl _ _) _) _
  have Y0 := hide (show w0.heap[G]? = some (.cells #[.string k, .bool o, .bool b, .slice (some ⟨gs, 0, none⟩) N c, .int .i64 n] 31 (0, 0) : Obj) by rw [← hw0.out]; exact E0.out)
  have Y1 := hide (show w0.heap[w.heap.size]? = some (.cells #[.string m, .string key, .int .i64 v, .string t] 37 : Obj) by rw [← hw0.out]; exact heap_old (by simp) (heap_new rfl))
  have Y2 := hide (show w0.heap[w.heap.size + 1]? = some (.cells #[.int .i64 0, .int .i64 0, .string ⟨#[]⟩, .int .i64 0, .int .i64 0] 33 : Obj) by rw [← hw0.out]; exact heap_new (by simp))
  have HO0 := hide (OwnL.below HS.out b0 (Nat.le_refl _))
  go_wp2_with fail
  refine (iKindFace_c _ _).mono ?_; rintro e w1 ⟨rfl, rfl⟩
  rw [HF.out]
  go_upto_region 2 with fail
  go_cut [26] from 17 (fun s26 wx => s26 = .bool false ∧ wx = ((w.alloc (.cells #[.string m, .string key, .int .i64 v, .string t] 37 : Obj)).alloc (.cells #[.int .i64 0, .int .i64 0, .string ⟨#[]⟩, .int .i64 0, .int .i64 0] 33 : Obj)))
  case first =>
    rcases hrr with h | ⟨h, rfl⟩
    · go_wp2_with fail
      go_meet
      exact ⟨rfl, rfl⟩
    · go_wp2_with fail
      go_meet
      exact ⟨rfl, rfl⟩
  case rest =>
  obtain ⟨rfl, rfl⟩ := hcut
  go_wp2_with fail
  rw [hw0.out]
  go_loopw [7] (fun i wr => ∃ j : Nat, j ≤ N ∧ i = .int .i64 j ∧ Below w0.heap.size w0 wr) (fun i _ => N - (intOf i).toNat)
  case atStart => exact ⟨0, by omega, rfl, Below.refl _ _⟩
  case round =>
    obtain ⟨j, hj, rfl, hb⟩ := hrel
    have X0 := hide (row_on hb Y0.out)
    have X1 := hide (row_on hb Y1.out)
    have X2 := hide (row_on hb Y2.out)
    have HOX := hide (OwnL.below HO0.out hb (Nat.le_refl _))
    obtain ⟨_, _, _, _, _, _⟩ := five_cells X0.out
    obtain ⟨_, _, _, _, _⟩ := four_cells X1.out
    obtain ⟨e0, e1, e2, e3, e4, ef⟩ := five_cells X2.out
    have hbx : Below base w wr := (b0.trans (hb.mono b0.size)).mono (by omega)
    have hbO : Below w.heap.size w wr := b0.trans (hb.mono b0.size)
    by_cases hlt : j < N
    · obtain ⟨A9, c9, hA9, hlc, hcm, hA⟩ := RdL.open_ (OwnL.rd (size := 2) (en := cellEn) (fun _ => rfl) HOX.out)
      obtain ⟨rfl, rfl⟩ : some ⟨gs, 0, none⟩ = A9 ∧ c = c9 := by injection hA9 with h1 h2 h3; exact ⟨h1, h3⟩
      obtain ⟨g, oo, hgo, hgl, HC⟩ := RdAt.at_ hA (by have := hN.out; omega)
      obtain ⟨rfl, rfl⟩ : gs = g ∧ 0 = oo := by cases hgo; exact ⟨rfl, rfl⟩
      obtain ⟨z, HZ, z0, z1⟩ := cell_get HC (Below.refl _ _) (show j < l.length by have := hN.out; omega)
      rw [Nat.zero_add] at z0 z1
      have hzl := HLOW.out j z hlt HZ.out
      clear hA hA9
      have hjl : j < N := by omega
      have hjd : decide (j < N) = true := decide_eq_true hjl
      go_wp2_with fail
      go_quiet (fail)
      go_wp2
      go_roundw
      case rel => exact ⟨j + 1, by omega, by go_num, below_drewN hb _⟩
      case measure => simp [intOf]; omega
    · obtain rfl : j = N := by omega
      have HFX := hide (fun g hg => And.intro (own_ne HOX.out X0.out (by decide) g hg) (And.intro (own_ne HOX.out X1.out (by decide) g hg) (own_ne HOX.out X2.out (by decide) g hg)))
      skip
      skip
      go_wp2_with fail
      go_quiet (fail)
      revert nq; intro q1
      go_wp2_with fail
      go_quiet (fail)
      revert nq; intro q2
      go_upto_block 2 with fail
      obtain ⟨wz, hwz⟩ : ∃ wz, Hid ((wr.drewN q1).drewN q2 = wz) := ⟨_, rfl⟩
      rw [hwz.out]
      have V0 := hide (show wz.heap[G]? = some (.cells #[.string k, .bool o, .bool b, .slice (some ⟨gs, 0, none⟩) j c, .int .i64 n] 31 (0, 0) : Obj) by rw [← hwz.out]; exact X0.out)
      have V1 := hide (show wz.heap[w.heap.size]? = some (.cells #[.string m, .string key, .int .i64 v, .string t] 37 : Obj) by rw [← hwz.out]; exact X1.out)
      have V2 := hide (show wz.heap[w.heap.size + 1]? = some (.cells #[.int .i64 0, .int .i64 0, .string ⟨#[]⟩, .int .i64 0, .int .i64 0] 33 : Obj) by rw [← hwz.out]; exact X2.out)
      have OZ : OwnL wz base 63 2 cellEn (.slice (some ⟨gs, 0, none⟩) j c) l := by rw [← hwz.out]; exact HOX.out
      have hbz : Below base w wz := by rw [← hwz.out]; exact below_drewN (below_drewN hbx _) _
      have hbzO : Below w.heap.size w wz := by rw [← hwz.out]; exact below_drewN (below_drewN hbO _) _
      have RZ : RdL wz 2 cellEn (.slice (some ⟨gs, 0, none⟩) j c) l := OZ.rd (fun _ => rfl)
      have RLOW := hide (show RdL wz 2 cellEn (.slice (some ⟨gs, 0, none⟩) j c) (l.take j) from rd_low RZ (b := j) (by omega))
      have hjc : j ≤ c := by omega
      have hjc2 : (j : Int) ≤ (c : Int) := by omega
      have hj0 : (0 : Int) ≤ (j : Int) := by omega
      have HLE : Hid (l.take j ++ [⟨key, v⟩] ++ [] = L) := by have h9 := HL.out; rw [List.drop_eq_nil_of_le (by have := hN.out; omega)] at h9; exact h9
      have hlt9 : (l.take j).length = j := by rw [List.length_take, hN.out]; omega
      clear OZ RZ X0 X1 X2 HOX hb hbx
      obtain ⟨_, _, _, _, _, _⟩ := five_cells V0.out
      obtain ⟨_, _, _, _, _⟩ := four_cells V1.out
      have hGz : G < wz.heap.size := (Array.getElem?_eq_some_iff.1 V0.out).1
      have hnz : w.heap.size < wz.heap.size := (Array.getElem?_eq_some_iff.1 V1.out).1
      have hne1 : ¬ G = w.heap.size := by omega
      have hne2 : ¬ w.heap.size = G := by omega
      have KAz : ∀ (o : Obj) (k : Nat), (wz.drew.alloc o).cell? ⟨G, k, none⟩ = wz.cell? ⟨G, k, none⟩ := fun o k => World.cell?_alloc_lt wz.drew o ⟨G, k, none⟩ hGz
      go_cut [] from 70 (fun wx => ∃ A3 c3, wx.heap[G]? = some (.cells #[.string k, .bool o, .bool b, .slice A3 L.length c3, .int .i64 n] 31 (0, 0) : Obj) ∧ wx.heap[w.heap.size + 1]? = some (.cells #[.int .i64 0, .int .i64 0, .string ⟨#[]⟩, .int .i64 0, .int .i64 0] 33 : Obj) ∧ OwnL wx base 63 2 cellEn (.slice A3 L.length c3) L ∧ Below base w wx ∧ Only G (Value.slice (some ⟨gs, 0, none⟩) j c).ownBlock w wx)
      case first =>
        go_wp2_with fail
        refine wp_region_T (F := 25) (Below wz.heap.size wz) 24 (by kernel_rfl) rfl (by kernel_rfl) (fun TL inv => ?_)
        have HSz : Below wz.heap.size wz wz.drew := (Below.refl _ _).drew
        refine wpAnyT_take (i := 0) (v := ?tkV100) TL inv HSz (by (simp only [List.getElem?_toArray, List.getElem?_cons_zero]); exact rfl) (by kernel_rfl) (by kernel_rfl) (by decide) (by exact fun _ _ _ h => h) (by rfl) ?tkY100 (fun inv => ?tkR100)
        case tkY100 => (intro w' hSw; have KG : ∀ k : Nat, w'.cell? ⟨G, k, none⟩ = _ := fun k => hSw.cell hGz; have KN : ∀ k : Nat, w'.cell? ⟨w.heap.size, k, none⟩ = _ := fun k => hSw.cell hnz; go_simp <;> with_reducible rfl)
        try simp only [Act.put, List.setIfInBounds_toArray, List.set_cons_zero, List.set_cons_succ]
        refine wpAnyT_take (i := 1) (v := ?tkV103) TL inv HSz (by (simp only [List.getElem?_toArray, List.getElem?_cons_succ, List.getElem?_cons_zero]); exact rfl) (by kernel_rfl) (by kernel_rfl) (by decide) (by exact fun _ _ _ h => h) (by rfl) ?tkY103 (fun inv => ?tkR103)
        case tkY103 => (intro w' hSw; have KG : ∀ k : Nat, w'.cell? ⟨G, k, none⟩ = _ := fun k => hSw.cell hGz; have KN : ∀ k : Nat, w'.cell? ⟨w.heap.size, k, none⟩ = _ := fun k => hSw.cell hnz; go_simp <;> with_reducible rfl)
        try simp only [Act.put, List.setIfInBounds_toArray, List.set_cons_zero, List.set_cons_succ]
        refine wpAnyT_take (i := 2) (v := ?tkV106) TL inv HSz (by (simp only [List.getElem?_toArray, List.getElem?_cons_succ, List.getElem?_cons_zero]); exact rfl) (by kernel_rfl) (by kernel_rfl) (by decide) (by exact fun _ _ _ h => h) (by rfl) ?tkY106 (fun inv => ?tkR106)
        case tkY106 => (intro w' hSw; have KG : ∀ k : Nat, w'.cell? ⟨G, k, none⟩ = _ := fun k => hSw.cell hGz; have KN : ∀ k : Nat, w'.cell? ⟨w.heap.size, k, none⟩ = _ := fun k => hSw.cell hnz; go_simp <;> with_reducible rfl)
        try simp only [Act.put, List.setIfInBounds_toArray, List.set_cons_zero, List.set_cons_succ]
        refine wpAnyT_take (i := 3) (v := ?tkV109) TL inv HSz (by (simp only [List.getElem?_toArray, List.getElem?_cons_succ, List.getElem?_cons_zero]); exact rfl) (by kernel_rfl) (by kernel_rfl) (by decide) (by exact fun _ _ _ h => h) (by rfl) ?tkY109 (fun inv => ?tkR109)
        case tkY109 => (intro w' hSw; have KG : ∀ k : Nat, w'.cell? ⟨G, k, none⟩ = _ := fun k => hSw.cell hGz; have KN : ∀ k : Nat, w'.cell? ⟨w.heap.size, k, none⟩ = _ := fun k => hSw.cell hnz; go_simp <;> with_reducible rfl)
        try simp only [Act.put, List.setIfInBounds_toArray, List.set_cons_zero, List.set_cons_succ]
        refine wpAnyT_take (i := 4) (v := ?tkV112) TL inv HSz (by (simp only [List.getElem?_toArray, List.getElem?_cons_succ, List.getElem?_cons_zero]); exact rfl) (by kernel_rfl) (by kernel_rfl) (by decide) (by exact fun _ _ _ h => h) (by rfl) ?tkY112 (fun inv => ?tkR112)
        case tkY112 => (intro w' hSw; have KG : ∀ k : Nat, w'.cell? ⟨G, k, none⟩ = _ := fun k => hSw.cell hGz; have KN : ∀ k : Nat, w'.cell? ⟨w.heap.size, k, none⟩ = _ := fun k => hSw.cell hnz; go_simp <;> with_reducible rfl)
        try simp only [Act.put, List.setIfInBounds_toArray, List.set_cons_zero, List.set_cons_succ]
        refine wpAnyT_take (i := 5) (v := ?tkV115) TL inv HSz (by (simp only [List.getElem?_toArray, List.getElem?_cons_succ, List.getElem?_cons_zero]); exact rfl) (by kernel_rfl) (by kernel_rfl) (by decide) (by exact fun _ _ _ h => h) (by rfl) ?tkY115 (fun inv => ?tkR115)
        case tkY115 => (intro w' hSw; have KG : ∀ k : Nat, w'.cell? ⟨G, k, none⟩ = _ := fun k => hSw.cell hGz; have KN : ∀ k : Nat, w'.cell? ⟨w.heap.size, k, none⟩ = _ := fun k => hSw.cell hnz; go_simp <;> with_reducible rfl)
        try simp only [Act.put, List.setIfInBounds_toArray, List.set_cons_zero, List.set_cons_succ]
        refine wpAnyT_take (i := 6) (v := ?tkV118) TL inv HSz (by (simp only [List.getElem?_toArray, List.getElem?_cons_succ, List.getElem?_cons_zero]); exact rfl) (by kernel_rfl) (by kernel_rfl) (by decide) (by exact fun _ _ _ h => h) (by rfl) ?tkY118 (fun inv => ?tkR118)
        case tkY118 => (intro w' hSw; have KG : ∀ k : Nat, w'.cell? ⟨G, k, none⟩ = _ := fun k => hSw.cell hGz; have KN : ∀ k : Nat, w'.cell? ⟨w.heap.size, k, none⟩ = _ := fun k => hSw.cell hnz; go_simp <;> with_reducible rfl)
        try simp only [Act.put, List.setIfInBounds_toArray, List.set_cons_zero, List.set_cons_succ]
        refine wpAnyT_take (i := 8) (v := ?tkV121) TL inv HSz (by (simp only [List.getElem?_toArray, List.getElem?_cons_succ, List.getElem?_cons_zero]); exact rfl) (by kernel_rfl) (by kernel_rfl) (by decide) (by exact fun _ _ _ h => h) (by rfl) ?tkY121 (fun inv => ?tkR121)
        case tkY121 => (intro w' hSw; have KG : ∀ k : Nat, w'.cell? ⟨G, k, none⟩ = _ := fun k => hSw.cell hGz; have KN : ∀ k : Nat, w'.cell? ⟨w.heap.size, k, none⟩ = _ := fun k => hSw.cell hnz; go_simp <;> with_reducible rfl)
        try simp only [Act.put, List.setIfInBounds_toArray, List.set_cons_zero, List.set_cons_succ]
        refine wpAnyT_take (i := 9) (v := ?tkV124) TL inv HSz (by (simp only [List.getElem?_toArray, List.getElem?_cons_succ, List.getElem?_cons_zero]); exact rfl) (by kernel_rfl) (by kernel_rfl) (by decide) (by exact fun _ _ _ h => h) (by rfl) ?tkY124 (fun inv => ?tkR124)
        case tkY124 => (intro w' hSw; have KG : ∀ k : Nat, w'.cell? ⟨G, k, none⟩ = _ := fun k => hSw.cell hGz; have KN : ∀ k : Nat, w'.cell? ⟨w.heap.size, k, none⟩ = _ := fun k => hSw.cell hnz; go_simp <;> with_reducible rfl)
        try simp only [Act.put, List.setIfInBounds_toArray, List.set_cons_zero, List.set_cons_succ]
        refine wpAnyT_take (i := 10) (v := ?tkV127) TL inv HSz (by (simp only [List.getElem?_toArray, List.getElem?_cons_succ, List.getElem?_cons_zero]); exact rfl) (by kernel_rfl) (by kernel_rfl) (by decide) (by exact fun _ _ _ h => h) (by rfl) ?tkY127 (fun inv => ?tkR127)
        case tkY127 => (intro w' hSw; have KG : ∀ k : Nat, w'.cell? ⟨G, k, none⟩ = _ := fun k => hSw.cell hGz; have KN : ∀ k : Nat, w'.cell? ⟨w.heap.size, k, none⟩ = _ := fun k => hSw.cell hnz; go_simp <;> with_reducible rfl)
        try simp only [Act.put, List.setIfInBounds_toArray, List.set_cons_zero, List.set_cons_succ]
        refine wpAnyT_take (i := 11) (v := ?tkV130) TL inv HSz (by (simp only [List.getElem?_toArray, List.getElem?_cons_succ, List.getElem?_cons_zero]); exact rfl) (by kernel_rfl) (by kernel_rfl) (by decide) (by exact fun _ _ _ h => h) (by rfl) ?tkY130 (fun inv => ?tkR130)
        case tkY130 => (intro w' hSw; have KG : ∀ k : Nat, w'.cell? ⟨G, k, none⟩ = _ := fun k => hSw.cell hGz; have KN : ∀ k : Nat, w'.cell? ⟨w.heap.size, k, none⟩ = _ := fun k => hSw.cell hnz; go_simp <;> with_reducible rfl)
        try simp only [Act.put, List.setIfInBounds_toArray, List.set_cons_zero, List.set_cons_succ]
        refine wpAnyT_take (i := 12) (v := ?tkV133) TL inv HSz (by (simp only [List.getElem?_toArray, List.getElem?_cons_succ, List.getElem?_cons_zero]); exact rfl) (by kernel_rfl) (by kernel_rfl) (by decide) (by exact fun _ _ _ h => h) (by rfl) ?tkY133 (fun inv => ?tkR133)
        case tkY133 => (intro w' hSw; have KG : ∀ k : Nat, w'.cell? ⟨G, k, none⟩ = _ := fun k => hSw.cell hGz; have KN : ∀ k : Nat, w'.cell? ⟨w.heap.size, k, none⟩ = _ := fun k => hSw.cell hnz; go_simp <;> with_reducible rfl)
        try simp only [Act.put, List.setIfInBounds_toArray, List.set_cons_zero, List.set_cons_succ]
        refine wpAnyT_take (i := 15) (v := ?tkV136) TL inv HSz (by (simp only [List.getElem?_toArray, List.getElem?_cons_succ, List.getElem?_cons_zero]); exact rfl) (by kernel_rfl) (by kernel_rfl) (by decide) (by exact fun _ _ _ h => h) (by rfl) ?tkY136 (fun inv => ?tkR136)
        case tkY136 => (intro w' hSw; have KG : ∀ k : Nat, w'.cell? ⟨G, k, none⟩ = _ := fun k => hSw.cell hGz; have KN : ∀ k : Nat, w'.cell? ⟨w.heap.size, k, none⟩ = _ := fun k => hSw.cell hnz; go_simp <;> with_reducible rfl)
        try simp only [Act.put, List.setIfInBounds_toArray, List.set_cons_zero, List.set_cons_succ]
        refine wpAnyT_take (i := 16) (v := ?tkV139) TL inv HSz (by (simp only [List.getElem?_toArray, List.getElem?_cons_succ, List.getElem?_cons_zero]); exact rfl) (by kernel_rfl) (by kernel_rfl) (by decide) (by exact fun _ _ _ h => h) (by rfl) ?tkY139 (fun inv => ?tkR139)
        case tkY139 => (intro w' hSw; have KG : ∀ k : Nat, w'.cell? ⟨G, k, none⟩ = _ := fun k => hSw.cell hGz; have KN : ∀ k : Nat, w'.cell? ⟨w.heap.size, k, none⟩ = _ := fun k => hSw.cell hnz; go_simp <;> with_reducible rfl)
        try simp only [Act.put, List.setIfInBounds_toArray, List.set_cons_zero, List.set_cons_succ]
        refine wpAnyT_take (i := 17) (v := ?tkV142) TL inv HSz (by (simp only [List.getElem?_toArray, List.getElem?_cons_succ, List.getElem?_cons_zero]); exact rfl) (by kernel_rfl) (by kernel_rfl) (by decide) (by exact fun _ _ _ h => h) (by rfl) ?tkY142 (fun inv => ?tkR142)
        case tkY142 => (intro w' hSw; have KG : ∀ k : Nat, w'.cell? ⟨G, k, none⟩ = _ := fun k => hSw.cell hGz; have KN : ∀ k : Nat, w'.cell? ⟨w.heap.size, k, none⟩ = _ := fun k => hSw.cell hnz; go_simp <;> with_reducible rfl)
        try simp only [Act.put, List.setIfInBounds_toArray, List.set_cons_zero, List.set_cons_succ]
        refine wpAnyT_take (i := 18) (v := ?tkV145) TL inv HSz (by (simp only [List.getElem?_toArray, List.getElem?_cons_succ, List.getElem?_cons_zero]); exact rfl) (by kernel_rfl) (by kernel_rfl) (by decide) (by exact fun _ _ _ h => h) (by rfl) ?tkY145 (fun inv => ?tkR145)
        case tkY145 => (intro w' hSw; have KG : ∀ k : Nat, w'.cell? ⟨G, k, none⟩ = _ := fun k => hSw.cell hGz; have KN : ∀ k : Nat, w'.cell? ⟨w.heap.size, k, none⟩ = _ := fun k => hSw.cell hnz; go_simp <;> with_reducible rfl)
        try simp only [Act.put, List.setIfInBounds_toArray, List.set_cons_zero, List.set_cons_succ]
        refine wpAnyT_take (i := 19) (v := ?tkV148) TL inv HSz (by (simp only [List.getElem?_toArray, List.getElem?_cons_succ, List.getElem?_cons_zero]); exact rfl) (by kernel_rfl) (by kernel_rfl) (by decide) (by exact fun _ _ _ h => h) (by rfl) ?tkY148 (fun inv => ?tkR148)
        case tkY148 => (intro w' hSw; have KG : ∀ k : Nat, w'.cell? ⟨G, k, none⟩ = _ := fun k => hSw.cell hGz; have KN : ∀ k : Nat, w'.cell? ⟨w.heap.size, k, none⟩ = _ := fun k => hSw.cell hnz; go_simp <;> with_reducible rfl)
        try simp only [Act.put, List.setIfInBounds_toArray, List.set_cons_zero, List.set_cons_succ]
        refine wpAnyT_take (i := 20) (v := ?tkV151) TL inv HSz (by (simp only [List.getElem?_toArray, List.getElem?_cons_succ, List.getElem?_cons_zero]); exact rfl) (by kernel_rfl) (by kernel_rfl) (by decide) (by exact fun _ _ _ h => h) (by rfl) ?tkY151 (fun inv => ?tkR151)
        case tkY151 => (intro w' hSw; have KG : ∀ k : Nat, w'.cell? ⟨G, k, none⟩ = _ := fun k => hSw.cell hGz; have KN : ∀ k : Nat, w'.cell? ⟨w.heap.size, k, none⟩ = _ := fun k => hSw.cell hnz; go_simp <;> with_reducible rfl)
        try simp only [Act.put, List.setIfInBounds_toArray, List.set_cons_zero, List.set_cons_succ]
        refine wpAnyT_two (i := 7) (j := 13) inv (by (simp only [List.getElem?_toArray, List.getElem?_cons_succ, List.getElem?_cons_zero]); exact rfl) (by (simp only [List.getElem?_toArray, List.getElem?_cons_succ, List.getElem?_cons_zero]); exact rfl) (by kernel_rfl) (fun K hK => ?_) (fun K hK => ?_)
        · skip
          refine step_app rfl _ _ 29 (by exact rfl) wz.heap.size 63 i0 _ 2 24 Tryz.underlying29 hi hz0 hz1 hz2 rfl (by decide) cellEn (fun _ => rfl) one_cell (.slice none 0 0) _ [] (l.take j) (by exact rfl) (OwnL.nil _ _ _ _ _) (by exact rfl) (RdL.below RLOW.out HSz (Nat.le_refl _)) (by simp) (by simp <;> omega) (by decide) ?_; intro v1 w1 o1 g1
          have o1x : OwnL w1 wz.heap.size 63 2 cellEn v1 (l.take j) := o1
          have hB1 : Below wz.heap.size wz w1 := below_then HSz (below_none g1 rfl)
          refine hK _ _ (fun _ => hB1) (fun inv => ?_)
          have inv := inv (by decide)
          try simp only [Act.put, List.setIfInBounds_toArray, List.set_cons_zero, List.set_cons_succ]
          refine wpAnyT_one (i := 13) inv (by (simp only [List.getElem?_toArray, List.getElem?_cons_succ, List.getElem?_cons_zero]); exact rfl) (by kernel_rfl) (fun K hK => ?_)
          go_simp
          refine hK _ _ (fun _ => below_alloc hB1 _) (fun inv => ?_)
          have inv := inv (by decide)
          try simp only [Act.put, List.setIfInBounds_toArray, List.set_cons_zero, List.set_cons_succ]
          refine wpAnyT_one (i := 14) inv (by (simp only [List.getElem?_toArray, List.getElem?_cons_succ, List.getElem?_cons_zero]); exact rfl) (by kernel_rfl) (fun K hK => ?_)
          refine step_app rfl _ _ 29 (by exact rfl) wz.heap.size 63 i0 _ 2 24 Tryz.underlying29 hi hz0 hz1 hz2 rfl (by decide) cellEn (fun _ => rfl) one_cell v1 _ (l.take j) [⟨key, v⟩] (by exact rfl) (OwnL.below o1x (below_alloc (Below.refl _ _) _) (Nat.le_refl _)) (by exact rfl) (rd_cell1 _) (by have := hB1.size; simp <;> omega) (by simp <;> omega) (by decide) ?_; intro v2 w2 o2 g2
          have hB2 : Below wz.heap.size wz w2 := Below.grown (below_alloc hB1 _) g2 (by have := hB1.size; simp <;> omega) (fun k hk => (OwnL.lt o1x hk).1)
          refine hK _ _ (fun _ => hB2) (fun inv => ?_)
          have inv := inv (by decide)
          try simp only [Act.put, List.setIfInBounds_toArray, List.set_cons_zero, List.set_cons_succ]
          refine wpAnyT_one (i := 21) inv (by (simp only [List.getElem?_toArray, List.getElem?_cons_succ, List.getElem?_cons_zero]); exact rfl) (by kernel_rfl) (fun K hK => ?_)
          refine step_app rfl _ _ 29 (by exact rfl) wz.heap.size 63 i0 _ 2 24 Tryz.underlying29 hi hz0 hz1 hz2 rfl (by decide) cellEn (fun _ => rfl) one_cell v2 _ ((l.take j) ++ [⟨key, v⟩]) [] (by exact rfl) o2 (by first | exact rfl | (simp [Act.eval] <;> omega)) (rd_empty _ _ _ () (by first | rfl | simp | omega) (by unfold maxLen; first | omega | (simp <;> omega))) hB2.size (by simp <;> omega) (by decide) ?_; intro v3 w3 o3 g3
          have hB3 : Below wz.heap.size wz w3 := Below.grown hB2 g3 hB2.size (fun k hk => (OwnL.lt o2 hk).1)
          have o3x : OwnL w3 wz.heap.size 63 2 cellEn v3 L := own_eq o3 HLE.out
          have Z0 := hide (row_on hB3 V0.out)
          have Z2 := hide (row_on hB3 V2.out)
          obtain ⟨_, _, _, _, _, _⟩ := five_cells Z0.out
          obtain ⟨A3, c3, rfl⟩ := OwnL.shape o3x
          refine hK _ _ (fun _ => hB3) (fun inv => ?_)
          have inv := inv (by decide)
          try simp only [Act.put, List.setIfInBounds_toArray, List.set_cons_zero, List.set_cons_succ]
          refine wpAnyT_take (i := 22) (v := ?tkV184) TL inv hB3 (by (simp only [List.getElem?_toArray, List.getElem?_cons_succ, List.getElem?_cons_zero]); exact rfl) (by kernel_rfl) (by kernel_rfl) (by decide) (by exact fun _ _ _ h => h) (by rfl) ?tkY184 (fun inv => ?tkR184)
          case tkY184 => (intro w' hSw; have KG : ∀ k : Nat, w'.cell? ⟨G, k, none⟩ = _ := fun k => hSw.cell hGz; have KN : ∀ k : Nat, w'.cell? ⟨w.heap.size, k, none⟩ = _ := fun k => hSw.cell hnz; go_simp <;> with_reducible rfl)
          try simp only [Act.put, List.setIfInBounds_toArray, List.set_cons_zero, List.set_cons_succ]
          refine wpAnyT_take (i := 23) (v := ?tkV187) TL inv hB3 (by (simp only [List.getElem?_toArray, List.getElem?_cons_succ, List.getElem?_cons_zero]); exact rfl) (by kernel_rfl) (by kernel_rfl) (by decide) (by exact fun _ _ _ h => h) (by rfl) ?tkY187 (fun inv => ?tkR187)
          case tkY187 => (intro w' hSw; have KG : ∀ k : Nat, w'.cell? ⟨G, k, none⟩ = _ := fun k => hSw.cell hGz; have KN : ∀ k : Nat, w'.cell? ⟨w.heap.size, k, none⟩ = _ := fun k => hSw.cell hnz; go_simp <;> with_reducible rfl)
          try simp only [Act.put, List.setIfInBounds_toArray, List.set_cons_zero, List.set_cons_succ]
          refine wpAnyT_one (i := 24) inv (by (simp only [List.getElem?_toArray, List.getElem?_cons_succ, List.getElem?_cons_zero]); exact rfl) (by kernel_rfl) (fun K hK => ?_)
          go_simp
          refine hK _ _ (fun h => absurd rfl h) (fun _ => ?_)
          refine wpAnyT_done (by kernel_rfl) ?_ _
          try simp only [Act.put, List.setIfInBounds_toArray, List.set_cons_zero, List.set_cons_succ]
          go_wp2_with fail
          all_goals (try subst_vars)
          all_goals go_meet
          all_goals exact ⟨A3, c3, (row5_set Z0.out).2.2.1, row_past Z2.out (by omega), OwnL.set' (OwnL.mono o3x (by omega)) (by intro g hg; have := own_ne o3x Z0.out (by decide) g hg; simp; omega) _, Below.setCell (hbz.trans (hB3.mono (by omega))) hbG _, only_set (a := ⟨G, 3, none⟩) (only_below (hbzO.trans (hB3.mono (by omega)))) (.inl rfl) _⟩
        · go_simp
          have HSy : Below wz.heap.size wz (wz.drew.alloc (.cells #[.string key, .int .i64 v] 63 : Obj)) := below_alloc HSz _
          refine hK _ _ (fun _ => HSy) (fun inv => ?_)
          have inv := inv (by decide)
          try simp only [Act.put, List.setIfInBounds_toArray, List.set_cons_zero, List.set_cons_succ]
          refine wpAnyT_one (i := 7) inv (by (simp only [List.getElem?_toArray, List.getElem?_cons_succ, List.getElem?_cons_zero]); exact rfl) (by kernel_rfl) (fun K hK => ?_)
          refine step_app rfl _ _ 29 (by exact rfl) wz.heap.size 63 i0 _ 2 24 Tryz.underlying29 hi hz0 hz1 hz2 rfl (by decide) cellEn (fun _ => rfl) one_cell (.slice none 0 0) _ [] (l.take j) (by exact rfl) (OwnL.nil _ _ _ _ _) (by exact rfl) (RdL.below RLOW.out HSy (Nat.le_refl _)) (by simp) (by simp <;> omega) (by decide) ?_; intro v1 w1 o1 g1
          have o1x : OwnL w1 wz.heap.size 63 2 cellEn v1 (l.take j) := o1
          have hB1 : Below wz.heap.size wz w1 := below_then HSy (below_none g1 rfl)
          have HY1 := hide (show RdL w1 2 cellEn (.slice (some ⟨wz.heap.size, 0, none⟩) 1 1) [⟨key, v⟩] from RdL.below (rd_cell1 (w := wz.drew) ⟨key, v⟩) (below_none g1 rfl) (Nat.le_refl _))
          refine hK _ _ (fun _ => hB1) (fun inv => ?_)
          have inv := inv (by decide)
          try simp only [Act.put, List.setIfInBounds_toArray, List.set_cons_zero, List.set_cons_succ]
          refine wpAnyT_one (i := 14) inv (by (simp only [List.getElem?_toArray, List.getElem?_cons_succ, List.getElem?_cons_zero]); exact rfl) (by kernel_rfl) (fun K hK => ?_)
          refine step_app rfl _ _ 29 (by exact rfl) wz.heap.size 63 i0 _ 2 24 Tryz.underlying29 hi hz0 hz1 hz2 rfl (by decide) cellEn (fun _ => rfl) one_cell v1 _ (l.take j) [⟨key, v⟩] (by exact rfl) o1x (by exact rfl) HY1.out (hB1.size) (by simp <;> omega) (by decide) ?_; intro v2 w2 o2 g2
          have hB2 : Below wz.heap.size wz w2 := Below.grown hB1 g2 (by have := hB1.size; simp <;> omega) (fun k hk => (OwnL.lt o1x hk).1)
          refine hK _ _ (fun _ => hB2) (fun inv => ?_)
          have inv := inv (by decide)
          try simp only [Act.put, List.setIfInBounds_toArray, List.set_cons_zero, List.set_cons_succ]
          refine wpAnyT_one (i := 21) inv (by (simp only [List.getElem?_toArray, List.getElem?_cons_succ, List.getElem?_cons_zero]); exact rfl) (by kernel_rfl) (fun K hK => ?_)
          refine step_app rfl _ _ 29 (by exact rfl) wz.heap.size 63 i0 _ 2 24 Tryz.underlying29 hi hz0 hz1 hz2 rfl (by decide) cellEn (fun _ => rfl) one_cell v2 _ ((l.take j) ++ [⟨key, v⟩]) [] (by exact rfl) o2 (by first | exact rfl | (simp [Act.eval] <;> omega)) (rd_empty _ _ _ () (by first | rfl | simp | omega) (by unfold maxLen; first | omega | (simp <;> omega))) hB2.size (by simp <;> omega) (by decide) ?_; intro v3 w3 o3 g3
          have hB3 : Below wz.heap.size wz w3 := Below.grown hB2 g3 hB2.size (fun k hk => (OwnL.lt o2 hk).1)
          have o3x : OwnL w3 wz.heap.size 63 2 cellEn v3 L := own_eq o3 HLE.out
          have Z0 := hide (row_on hB3 V0.out)
          have Z2 := hide (row_on hB3 V2.out)
          obtain ⟨_, _, _, _, _, _⟩ := five_cells Z0.out
          obtain ⟨A3, c3, rfl⟩ := OwnL.shape o3x
          refine hK _ _ (fun _ => hB3) (fun inv => ?_)
          have inv := inv (by decide)
          try simp only [Act.put, List.setIfInBounds_toArray, List.set_cons_zero, List.set_cons_succ]
          refine wpAnyT_take (i := 22) (v := ?tkV229) TL inv hB3 (by (simp only [List.getElem?_toArray, List.getElem?_cons_succ, List.getElem?_cons_zero]); exact rfl) (by kernel_rfl) (by kernel_rfl) (by decide) (by exact fun _ _ _ h => h) (by rfl) ?tkY229 (fun inv => ?tkR229)
          case tkY229 => (intro w' hSw; have KG : ∀ k : Nat, w'.cell? ⟨G, k, none⟩ = _ := fun k => hSw.cell hGz; have KN : ∀ k : Nat, w'.cell? ⟨w.heap.size, k, none⟩ = _ := fun k => hSw.cell hnz; go_simp <;> with_reducible rfl)
          try simp only [Act.put, List.setIfInBounds_toArray, List.set_cons_zero, List.set_cons_succ]
          refine wpAnyT_take (i := 23) (v := ?tkV232) TL inv hB3 (by (simp only [List.getElem?_toArray, List.getElem?_cons_succ, List.getElem?_cons_zero]); exact rfl) (by kernel_rfl) (by kernel_rfl) (by decide) (by exact fun _ _ _ h => h) (by rfl) ?tkY232 (fun inv => ?tkR232)
          case tkY232 => (intro w' hSw; have KG : ∀ k : Nat, w'.cell? ⟨G, k, none⟩ = _ := fun k => hSw.cell hGz; have KN : ∀ k : Nat, w'.cell? ⟨w.heap.size, k, none⟩ = _ := fun k => hSw.cell hnz; go_simp <;> with_reducible rfl)
          try simp only [Act.put, List.setIfInBounds_toArray, List.set_cons_zero, List.set_cons_succ]
          refine wpAnyT_one (i := 24) inv (by (simp only [List.getElem?_toArray, List.getElem?_cons_succ, List.getElem?_cons_zero]); exact rfl) (by kernel_rfl) (fun K hK => ?_)
          go_simp
          refine hK _ _ (fun h => absurd rfl h) (fun _ => ?_)
          refine wpAnyT_done (by kernel_rfl) ?_ _
          try simp only [Act.put, List.setIfInBounds_toArray, List.set_cons_zero, List.set_cons_succ]
          go_wp2_with fail
          all_goals (try subst_vars)
          all_goals go_meet
          all_goals exact ⟨A3, c3, (row5_set Z0.out).2.2.1, row_past Z2.out (by omega), OwnL.set' (OwnL.mono o3x (by omega)) (by intro g hg; have := own_ne o3x Z0.out (by decide) g hg; simp; omega) _, Below.setCell (hbz.trans (hB3.mono (by omega))) hbG _, only_set (a := ⟨G, 3, none⟩) (only_below (hbzO.trans (hB3.mono (by omega)))) (.inl rfl) _⟩
      case rest =>
      obtain ⟨A3, c3, hU0, hU2, O5, hb5, ho5⟩ := hcut
      have U0 := hide hU0
      have U2 := hide hU2
      clear hU0 hU2
      have HFY := hide (fun g hg => And.intro (own_ne O5 U0.out (by decide) g hg) (own_ne O5 U2.out (by decide) g hg))
      have HO5 := hide O5
      clear O5 V0 V1 V2 KAz
      obtain ⟨_, _, _, _, _, _⟩ := five_cells U0.out
      obtain ⟨e0, e1, e2, e3, e4, ef⟩ := five_cells U2.out
      have hnx1 : ¬ G = w.heap.size + 1 := by omega
      have hnx2 : ¬ w.heap.size + 1 = G := by omega
      go_wp2_with fail
      refine (countUp_c n _ hn0 hn1).mono ?_; rintro e w6 ⟨rfl, rfl⟩
      go_wp2
      refine bodyPost_ret (v := .agg #[.int .i64 0, .int .i64 L.length, .string ⟨#[]⟩, .int .i64 0, .int .i64 0]) (by simp [results, Tryz.results93, go_sem, e0, e1, e2, e3, e4]) rfl ?_
      rw [HN.out]
      refine ⟨A3, c3, rfl, ?_, ?_, ?_, ?_⟩
      · iterate 5 refine row_past ?_ (by omega)
        exact (row5_set U0.out).2.2.2
      · iterate 6 refine OwnL.set' ?_ (by intro g hg; have := HFY.out g hg; simp <;> omega) _
        exact HO5.out
      · iterate 6 refine Below.setCell ?_ (by simp <;> omega) _
        exact hb5
      · iterate 6 refine only_set ?_ (by first | exact .inl rfl | exact .inr (.inr (by simp <;> omega))) _
        exact ho5
end Go.Proofs.YtllmcnmongaahaaGreatDoor
