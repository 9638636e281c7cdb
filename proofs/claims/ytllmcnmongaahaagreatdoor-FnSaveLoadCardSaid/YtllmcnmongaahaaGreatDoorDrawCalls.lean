/- Contracts: the drawn inputs of the laws of cores, 3: a core and its calls. -/
import Derived.Test.YtllmcnmongaahaaGreatDoorM3
namespace Go.Proofs.YtllmcnmongaahaaGreatDoor
open Go.ChangeShapes Go.WideShapes Go.ChangeAt Go.RowKit
set_option maxRecDepth 100000
set_option linter.unusedVariables false
set_option maxHeartbeats 2000000 in
theorem drawCallCores_c (v : Value) (l : List UInt8) (w : World) (hv : RdL w 1 byteEn v l) (hl : l.length ≤ 4096) :
    Calls Tryz.prog 48 #[v] w fun e w' => ∃ (p : Pu.CoreD) (s u : Value) (m : List Pu.CallD), e = .returned (.tuple #[coreV p s, u]) ∧ RdL w' 2 cellEn s p.cells ∧ DrawnK p ∧ RdL w' 4 callEn u m ∧ m.length ≤ 8 ∧ (∀ x ∈ m, DrawnX x) ∧ Below w.heap.size w w' := by
  obtain ⟨A0, c0, rfl, _, _, _⟩ := RdL.open_ hv
  have HV := hide hv
  clear hv
  go_enter Tryz.func48, Tryz.ntmps48
  obtain ⟨w0, hw0⟩ : ∃ w0, Hid (w.alloc (.cells #[.string ⟨#[]⟩, .bool false, .bool false, .slice none 0 0, .int .i64 0] 31 : Obj) = w0) := ⟨_, rfl⟩
  have b0 : Below w.heap.size w w0 := by rw [← hw0.out]; exact below_alloc (Below.refl _ _) _
  have Y0 := hide (show w0.heap[w.heap.size]? = some (.cells #[.string ⟨#[]⟩, .bool false, .bool false, .slice none 0 0, .int .i64 0] 31 (0, 0) : Obj) by rw [← hw0.out]; exact heap_new rfl)
  go_wp2_with fail
  rw [hw0.out]
  refine (l1New_c _ _ _ (RdL.below HV.out b0 (Nat.le_refl _)) hl).mono ?_; rintro e w1 ⟨g, rfl, hg0, hg1, hc1, b1⟩
  have hn0 : w.heap.size < w0.heap.size := (Array.getElem?_eq_some_iff.1 Y0.out).1
  have Y1 := hide (row_on b1 Y0.out)
  have B1 := below_then b0 b1
  have hy : some w.heap.size ≠ some g := by intro h; cases h; omega
  clear b0 b1 Y0
  go_wp2_with fail
  refine (l3Any_c _ _ _ hc1 hg1).mono ?_; rintro e w2 ⟨p, s, rfl, o2, hp, hc2, hgr2⟩
  obtain ⟨A, c, rfl⟩ := OwnL.shape o2
  unfold coreV
  have Y2 := hide (row_keep hgr2 Y1.out hy)
  have B2 : Below w.heap.size w w2 := B1.grown hgr2 B1.size (fun k hk => by cases hk; omega)
  have HO2 := hide o2
  have HP := hide hp
  clear o2 hp
  have hg2 : g < w2.heap.size := Nat.lt_of_lt_of_le hg1 hgr2.size
  go_wp2_with fail
  refine (l3Calls_c _ _ _ hc2 hg2).mono ?_; rintro e w3 ⟨u, m, rfl, o3, hm, hc3, hgr3⟩
  obtain ⟨U, d, rfl⟩ := OwnL.shape o3
  have Y3 := hide (row_keep hgr3 Y2.out hy)
  have B3 : Below w.heap.size w w3 := B2.grown hgr3 B2.size (fun k hk => by cases hk; omega)
  have HO3 := hide (own_keep HO2.out hgr3 hg1)
  have HU3 := hide o3
  have HM := hide hm
  clear hm o3
  have HFX := hide (fun j hj => own_ne HO3.out Y3.out (by decide) j hj)
  have HFU := hide (fun j hj => own_ne HU3.out Y3.out (by decide) j hj)
  obtain ⟨d0, d1, d2, d3, d4, df⟩ := five_cells Y3.out
  go_wp2
  refine bodyPost_ret (v := .tuple #[.agg #[.string p.kind, .bool p.on, .bool p.broken, .slice A p.cells.length c, .int .i64 p.count], .slice U m.length d]) (by simp [results, Tryz.results48, go_sem, d0, d1, d2, d3, d4]) rfl ?_
  refine ⟨p, _, _, m, rfl, OwnL.rd (base := w1.heap.size) (e := 63) (fun _ => rfl) ?_, HP.out, OwnL.rd (base := w2.heap.size) (e := 37) (fun _ => rfl) ?_, HM.out.1, HM.out.2, ?_⟩
  · iterate 5 refine OwnL.set' ?_ (by intro j hj; have := HFX.out j hj; simp <;> omega) _
    exact HO3.out
  · iterate 5 refine OwnL.set' ?_ (by intro j hj; have := HFU.out j hj; simp <;> omega) _
    exact HU3.out
  · iterate 5 refine below_set ?_ (by simp <;> omega) _
    exact B3
end Go.Proofs.YtllmcnmongaahaaGreatDoor
