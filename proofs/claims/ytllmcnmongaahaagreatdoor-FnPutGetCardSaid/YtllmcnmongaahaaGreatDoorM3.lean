/- Merged texts of this repo: DrawCore3, DrawCore4, TextLaw. -/
import Derived.Test.YtllmcnmongaahaaGreatDoorDrawCore2
import Derived.Test.YtllmcnmongaahaaGreatDoorM1
import Derived.Test.YtllmcnmongaahaaGreatDoorPCall
/- Contracts: the drawn inputs of the laws of cores. Written by wip/tools/drawgen.py. -/
namespace Go.Proofs.YtllmcnmongaahaaGreatDoor
open Go.ChangeShapes Go.WideShapes Go.ChangeAt Go.RowKit
set_option maxRecDepth 100000
set_option linter.unusedVariables false
set_option maxHeartbeats 2000000 in
theorem drawCallCore_c (v : Value) (l : List UInt8) (w : World) (hv : RdL w 1 byteEn v l) (hl : l.length ≤ 4096) :
    Calls Tryz.prog 41 #[v] w fun e w' => ∃ (p : Pu.CoreD) (s : Value) (x : Pu.CallD), e = .returned (.tuple #[coreV p s, callV x]) ∧ RdL w' 2 cellEn s p.cells ∧ DrawnK p ∧ DrawnX x ∧ Below w.heap.size w w' := by
  obtain ⟨A0, c0, rfl, _, _, _⟩ := RdL.open_ hv
  have HV := hide hv
  clear hv
  go_enter Tryz.func41, Tryz.ntmps41
  obtain ⟨w0, hw0⟩ : ∃ w0, Hid ((w.alloc (.cells #[.string ⟨#[]⟩, .bool false, .bool false, .slice none 0 0, .int .i64 0] 31 : Obj)).alloc (.cells #[.string ⟨#[]⟩, .string ⟨#[]⟩, .int .i64 0, .string ⟨#[]⟩] 37 : Obj) = w0) := ⟨_, rfl⟩
  have b0 : Below w.heap.size w w0 := by rw [← hw0.out]; exact below_alloc (below_alloc (Below.refl _ _) _) _
  have Y0 := hide (show w0.heap[w.heap.size]? = some (.cells #[.string ⟨#[]⟩, .bool false, .bool false, .slice none 0 0, .int .i64 0] 31 (0, 0) : Obj) by rw [← hw0.out]; exact heap_old (by simp) (heap_new rfl))
  have Z0 := hide (show w0.heap[w.heap.size + 1]? = some (.cells #[.string ⟨#[]⟩, .string ⟨#[]⟩, .int .i64 0, .string ⟨#[]⟩] 37 (0, 0) : Obj) by rw [← hw0.out]; exact heap_new (by simp))
  go_wp2_with fail
  rw [hw0.out]
  refine (l1New_c _ _ _ (RdL.below HV.out b0 (Nat.le_refl _)) hl).mono ?_; rintro e w1 ⟨g, rfl, hg0, hg1, hc1, b1⟩
  have hn0 : w.heap.size + 1 < w0.heap.size := (Array.getElem?_eq_some_iff.1 Z0.out).1
  have Y1 := hide (row_on b1 Y0.out)
  have Z1 := hide (row_on b1 Z0.out)
  have B1 := below_then b0 b1
  have hy : some w.heap.size ≠ some g := by intro h; cases h; omega
  have hz : some (w.heap.size + 1) ≠ some g := by intro h; cases h; omega
  clear b0 b1 Y0 Z0
  go_wp2_with fail
  refine (l3Any_c _ _ _ hc1 hg1).mono ?_; rintro e w2 ⟨p, s, rfl, o2, hp, hc2, hgr2⟩
  obtain ⟨A, c, rfl⟩ := OwnL.shape o2
  unfold coreV
  have Y2 := hide (row_keep hgr2 Y1.out hy)
  have Z2 := hide (row_keep hgr2 Z1.out hz)
  have B2 : Below w.heap.size w w2 := B1.grown hgr2 B1.size (fun k hk => by cases hk; omega)
  have HO2 := hide o2
  have HP := hide hp
  clear o2 hp
  have hg2 : g < w2.heap.size := Nat.lt_of_lt_of_le hg1 hgr2.size
  go_wp2_with fail
  refine (l3AnyCall_c _ _ _ hc2 hg2).mono ?_; rintro e w3 ⟨x, rfl, hx, hc3, hgr3⟩
  unfold callV
  have Y3 := hide (row_keep hgr3 Y2.out hy)
  have Z3 := hide (row_keep hgr3 Z2.out hz)
  have B3 : Below w.heap.size w w3 := B2.grown hgr3 B2.size (fun k hk => by cases hk; omega)
  have HO3 := hide (own_keep HO2.out hgr3 hg1)
  have HX := hide hx
  clear hx
  have HFX := hide (fun j hj => And.intro (own_ne HO3.out Y3.out (by decide) j hj) (own_ne HO3.out Z3.out (by decide) j hj))
  obtain ⟨d0, d1, d2, d3, d4, df⟩ := five_cells Y3.out
  obtain ⟨e0, e1, e2, e3, ef⟩ := four_cells Z3.out
  go_wp2
  refine bodyPost_ret (v := .tuple #[.agg #[.string p.kind, .bool p.on, .bool p.broken, .slice A p.cells.length c, .int .i64 p.count], .agg #[.string x.method, .string x.key, .int .i64 x.value, .string x.text]]) (by simp [results, Tryz.results41, go_sem, d0, d1, d2, d3, d4, e0, e1, e2, e3]) rfl ?_
  refine ⟨p, _, x, rfl, OwnL.rd (base := w1.heap.size) (e := 63) (fun _ => rfl) ?_, HP.out, HX.out, ?_⟩
  · iterate 9 refine OwnL.set' ?_ (by intro j hj; have := HFX.out j hj; simp <;> omega) _
    exact HO3.out
  · iterate 9 refine below_set ?_ (by simp <;> omega) _
    exact B3
end Go.Proofs.YtllmcnmongaahaaGreatDoor
/- Contracts: the drawn inputs of the laws of cores, 2. Written by wip/tools/drawgen.py. -/
namespace Go.Proofs.YtllmcnmongaahaaGreatDoor
open Go.ChangeShapes Go.WideShapes Go.ChangeAt Go.RowKit
set_option maxRecDepth 100000
set_option linter.unusedVariables false
theorem Pu.callT_size {x : Pu.CallD} (h : DrawnX x) : (Pu.callT x).size ≤ 256 := by
  obtain ⟨h1, h2, h3, h4⟩ := h
  have hn : (Pu.numB x.value).size ≤ 20 := Pu.numB_size (by simpa [Lit.wf, IntKind.min, IntKind.max, IntKind.signed, IntKind.bits] using (show _ ∧ _ by simpa [Lit.wf, IntKind.min, IntKind.max, IntKind.signed, IntKind.bits] using h3).1) (by simpa [Lit.wf, IntKind.min, IntKind.max, IntKind.signed, IntKind.bits] using (show _ ∧ _ by simpa [Lit.wf, IntKind.min, IntKind.max, IntKind.signed, IntKind.bits] using h3).2)
  have e4 : (⟨#[80, 117, 116, 32]⟩ : ByteArray).size = 4 := rfl
  have e5 : (⟨#[71, 101, 116, 32]⟩ : ByteArray).size = 4 := rfl
  have e6 : (⟨#[72, 101, 97, 114, 32]⟩ : ByteArray).size = 5 := rfl
  have e7 : (⟨#[76, 111, 97, 100, 32]⟩ : ByteArray).size = 5 := rfl
  have e8 : (⟨#[32]⟩ : ByteArray).size = 1 := rfl
  unfold Pu.callT Pu.callTo
  split
  · split
    · simp only [ByteArray.size_append]; omega
    · split
      · simp only [ByteArray.size_append]; omega
      · split
        · simp only [ByteArray.size_append]; omega
        · split
          · simp only [ByteArray.size_append]; omega
          · omega
  · decide
/-- 'append(out, x)': x lies in a new block of its own; out is the call's own; what lies elsewhere is not asked for -/
theorem push_free {α : Type} {P : Program} {ops : Array Oper} {rest : List Oper} {o : Oper} {a : Act} {Q : Exit → Act → World → Prop} {wr : World} (hgd : o.guard = none) (s x : Operand) (t : TypeId)
    (ho : o.op = .call { callee := .builtin .append, args := #[s, x], argTypes := #[t, t] }) (base : Nat) (e : TypeId) (i : TypeInfo) (z : Value) (size bytes : Nat)
    (ht : P.underlying t = some (.slice e)) (hi : P.info? e = some i) (hz : i.zero = some z) (hsize : i.size = size) (hby : i.bytes = bytes) (hzs : z.cells.size = size) (hsz : 0 < size)
    (en : α → List Value) (v : Value) (l : List α) (y : α) (hs : a.eval s = v) (hown : OwnL wr base e size en v l) (hx : a.eval x = .slice (some ⟨wr.heap.size, 0, none⟩) 1 1)
    (hlen : (en y).length = size) (hone : ∀ u ∈ en y, u.oneCell' = true) (hb' : base ≤ wr.heap.size) (hn : l.length < 1099511627776) (hbytes : bytes ≤ 64)
    (h : ∀ v' w', OwnL w' base e size en v' (l ++ [y]) → (wr.alloc (.cells (en y).toArray e)).grownBy w' v.ownBlock → wpList P ops Q rest (a.put o.dst v') w') :
    wpList P ops Q (o :: rest) a (wr.alloc (.cells (en y).toArray e)) := by
  refine wpList_append_own _ hgd s x t ho base e i z size bytes ht hi hz hsize hby hzs hsz v l.length (l.flatMap en) hs (World.ownsRow.alloc hown _) ⟨wr.heap.size, 0, none⟩ 1 1 (en y) hx (by omega) ?_ hone (by unfold maxLen; omega) ?_ (by simp; omega) ?_
  · intro j u hj
    have e1 : (⟨wr.heap.size, 0, none⟩ : Addr).add j = ⟨wr.heap.size, j, none⟩ := by unfold Addr.add; split <;> simp_all
    rw [e1, cell_of_row _ wr.heap.size j (en y).toArray e (0, 0) (heap_alloc_new wr _)]
    simpa using hj
  · calc (l.length + 1) * bytes ≤ 1099511627776 * 64 := Nat.mul_le_mul (by omega) hbytes
      _ ≤ 140737488355328 := by decide
  · intro v' w' hown' hg _
    exact h v' w' (OwnL.snoc hown') hg
theorem field_cells (k : ByteArray) (o b : Bool) (s : Value) (n : Int) (w : World) : (Instr.field 31 (.agg #[.string k, .bool o, .bool b, s, .int .i64 n]) 3).run Tryz.prog w = .ok s w := by
  kernel_rfl
theorem one_call (x : Pu.CallD) : ∀ u ∈ callEn x, u.oneCell' = true := by simp [callEn, Value.oneCell']
theorem info_call : (Tryz.prog.info? 37).map (fun i => (i.zero, i.size, i.bytes)) = some (some (.agg #[.string ByteArray.empty, .string ByteArray.empty, .int .i64 0, .string ByteArray.empty]), 4, 56) := by kernel_rfl
theorem drawFormatCells_c (v : Value) (l : List UInt8) (w : World) (hv : RdL w 1 byteEn v l) (hl : l.length ≤ 4096) :
    Calls Tryz.prog 31 #[v] w fun e w' => ∃ (u : Value) (m : List Pu.CellD), e = .returned u ∧ RdL w' 2 cellEn u m ∧ DrawnC m ∧ Below w.heap.size w w' := by
  go_enter Tryz.func31, Tryz.ntmps31
  go_wp2_with fail
  refine (l1New_c _ _ _ hv hl).mono ?_; rintro e w1 ⟨g, rfl, hg0, hg1, hc1, b1⟩
  go_wp2_with fail
  refine (l3Any_c _ _ _ hc1 hg1).mono ?_; rintro e w2 ⟨p, s, rfl, o2, hp, hc2, hgr2⟩
  have B2 : Below w.heap.size w w2 := b1.grown hgr2 b1.size (fun k hk => by cases hk; omega)
  obtain ⟨A2, c2, rfl⟩ := OwnL.shape o2
  unfold coreV
  have hfd := field_cells p.kind p.on p.broken (.slice A2 p.cells.length c2) p.count w2
  go_wp2_with fail
  go_ret
  exact ⟨_, p.cells, rfl, OwnL.rd (fun _ => rfl) o2, hp.2.2, B2⟩
theorem drawFormatCall_c (v : Value) (l : List UInt8) (w : World) (hv : RdL w 1 byteEn v l) (hl : l.length ≤ 4096) :
    Calls Tryz.prog 36 #[v] w fun e w' => ∃ x : Pu.CallD, e = .returned (callV x) ∧ DrawnX x ∧ Below w.heap.size w w' := by
  obtain ⟨A0, c0, rfl, _, _, _⟩ := RdL.open_ hv
  have HV := hide hv
  clear hv
  go_enter Tryz.func36, Tryz.ntmps36
  obtain ⟨w0, hw0⟩ : ∃ w0, Hid (w.alloc (.cells #[.string ⟨#[]⟩, .string ⟨#[]⟩, .int .i64 0, .string ⟨#[]⟩] 37 : Obj) = w0) := ⟨_, rfl⟩
  have b0 : Below w.heap.size w w0 := by rw [← hw0.out]; exact below_alloc (Below.refl _ _) _
  have Z0 := hide (show w0.heap[w.heap.size]? = some (.cells #[.string ⟨#[]⟩, .string ⟨#[]⟩, .int .i64 0, .string ⟨#[]⟩] 37 (0, 0) : Obj) by rw [← hw0.out]; exact heap_new rfl)
  go_wp2_with fail
  rw [hw0.out]
  refine (l1New_c _ _ _ (RdL.below HV.out b0 (Nat.le_refl _)) hl).mono ?_; rintro e w1 ⟨g, rfl, hg0, hg1, hc1, b1⟩
  have hn0 : w.heap.size < w0.heap.size := (Array.getElem?_eq_some_iff.1 Z0.out).1
  have Z1 := hide (row_on b1 Z0.out)
  have B1 := below_then b0 b1
  have hz : some w.heap.size ≠ some g := by intro h; cases h; omega
  clear b0 b1 Z0
  go_wp2_with fail
  refine (l3AnyCall_c _ _ _ hc1 hg1).mono ?_; rintro e w3 ⟨x, rfl, hx, hc3, hgr3⟩
  unfold callV
  have Z3 := hide (row_keep hgr3 Z1.out hz)
  have B3 : Below w.heap.size w w3 := B1.grown hgr3 B1.size (fun k hk => by cases hk; omega)
  have HX := hide hx
  clear hx
  obtain ⟨e0, e1, e2, e3, ef⟩ := four_cells Z3.out
  go_wp2
  refine bodyPost_ret (v := .agg #[.string x.method, .string x.key, .int .i64 x.value, .string x.text]) (by simp [results, Tryz.results36, go_sem, e0, e1, e2, e3]) rfl ?_
  refine ⟨x, rfl, HX.out, ?_⟩
  iterate 4 refine below_set ?_ (by simp <;> omega) _
  exact B3
set_option maxHeartbeats 1000000 in
theorem drawParseCall_c (v : Value) (l : List UInt8) (w : World) (hv : RdL w 1 byteEn v l) (hl : l.length ≤ 4096) :
    Calls Tryz.prog 39 #[v] w fun e w' => ∃ s : ByteArray, e = .returned (.string s) ∧ s.size ≤ 512 ∧ Below w.heap.size w w' := by
  go_enter Tryz.func39, Tryz.ntmps39
  go_wp2_with fail
  refine (l1New_c _ _ _ hv hl).mono ?_; rintro e w1 ⟨g, rfl, hg0, hgs1, hc1, b1⟩
  have hlow : ∀ k, some g = some k → w.heap.size ≤ k := fun k hk => by cases hk; exact hg0
  go_wp2_with fail
  refine (l3Call_c _ _ _ hc1 hgs1).mono ?_; rintro e w2 ⟨x, rfl, hx, hc2, hgr2⟩
  have hgs2 : g < w2.heap.size := Nat.lt_of_lt_of_le hgs1 hgr2.size
  go_wp2_with fail
  refine (sFormatCall_c x _ hx.wf hx.text).mono ?_; rintro e w3 ⟨rfl, b3⟩
  have hz := Pu.callT_size hx
  generalize Pu.callT x = s at hz ⊢
  have hc3 := hc2.kept b3 hgs2
  have hg3 := grown_below hgr2 b3
  have hgs3 : g < w3.heap.size := Nat.lt_of_lt_of_le hgs2 b3.size
  go_wp2_with fail
  refine (l1Below_c _ _ _ _ hc3 (by omega)).mono ?_; rintro e w4 ⟨x, rfl, hx0, hx1, hc4, hgr4⟩
  have hgs4 : g < w4.heap.size := Nat.lt_of_lt_of_le hgs3 hgr4.size
  have hg4 := grown_trans hg3 hgr4
  by_cases h0 : x = 0
  · subst h0
    go_wp2_with fail
    refine (l1Str_c _ _ _ [⟨#[32]⟩, ⟨#[32, 49]⟩, ⟨#[115]⟩, ⟨#[32, 97]⟩] _ (hc4.alloc hgs4 _) (rd_new (e := 9) _ rfl (by decide) (heap_new rfl)) (by decide) (by decide) (by intro a c n h; cases h; show w4.heap.size ≠ g; omega)).mono ?_; rintro e w5 ⟨y, rfl, hy, hcw5, hgw5⟩
    have hzy : y.size ≤ 2 := (show ∀ z ∈ ([⟨#[32]⟩, ⟨#[32, 49]⟩, ⟨#[115]⟩, ⟨#[32, 97]⟩] : List ByteArray), z.size ≤ 2 by decide) y hy
    have hsz : ¬ 9223372036854775807 < s.size + y.size := by omega
    go_wp2_with fail
    go_ret
    exact ⟨_, rfl, by rw [ByteArray.size_append]; omega, b1.grown (grown_trans (grown_alloc hg4 _) hgw5) b1.size hlow⟩
  by_cases h1 : x = 1
  · subst h1
    go_wp2_with fail
    refine (l1Str_c _ _ _ [⟨#[]⟩, ⟨#[80, 117, 116]⟩, ⟨#[80, 117, 116, 32, 97]⟩, ⟨#[80, 117, 116, 32, 32, 49]⟩, ⟨#[71, 101, 116]⟩, ⟨#[71, 101, 116, 32]⟩, ⟨#[72, 101, 97, 114]⟩, ⟨#[76, 111, 97, 100]⟩, ⟨#[76, 111, 97, 100, 32]⟩, ⟨#[76, 111, 97, 100, 32, 32, 97]⟩, ⟨#[83, 116, 97, 114, 116, 32, 48]⟩, ⟨#[80, 117, 116, 32, 97, 32, 48, 49]⟩, ⟨#[80, 117, 116, 32, 97, 32, 98, 32, 49]⟩, ⟨#[112, 117, 116, 32, 97, 32, 49]⟩] _ (hc4.alloc hgs4 _) (rd_new (e := 9) _ rfl (by decide) (heap_new rfl)) (by decide) (by decide) (by intro a c n h; cases h; show w4.heap.size ≠ g; omega)).mono ?_; rintro e w5 ⟨y, rfl, hy, hcw5, hgw5⟩
    have hzy : y.size ≤ 9 := (show ∀ z ∈ ([⟨#[]⟩, ⟨#[80, 117, 116]⟩, ⟨#[80, 117, 116, 32, 97]⟩, ⟨#[80, 117, 116, 32, 32, 49]⟩, ⟨#[71, 101, 116]⟩, ⟨#[71, 101, 116, 32]⟩, ⟨#[72, 101, 97, 114]⟩, ⟨#[76, 111, 97, 100]⟩, ⟨#[76, 111, 97, 100, 32]⟩, ⟨#[76, 111, 97, 100, 32, 32, 97]⟩, ⟨#[83, 116, 97, 114, 116, 32, 48]⟩, ⟨#[80, 117, 116, 32, 97, 32, 48, 49]⟩, ⟨#[80, 117, 116, 32, 97, 32, 98, 32, 49]⟩, ⟨#[112, 117, 116, 32, 97, 32, 49]⟩] : List ByteArray), z.size ≤ 9 by decide) y hy
    go_wp2_with fail
    go_ret
    exact ⟨_, rfl, by omega, b1.grown (grown_trans (grown_alloc hg4 _) hgw5) b1.size hlow⟩
  go_wp2_with fail
  go_ret
  exact ⟨s, rfl, by omega, b1.grown hg4 b1.size hlow⟩
set_option maxHeartbeats 1000000 in
theorem l3Calls_c (g : Nat) (l : List UInt8) (w : World) (hc : Cur w g l) (hgs : g < w.heap.size) :
    Calls Tryz.prog 82 #[.pointer (some ⟨g, 0, none⟩), .int .i64 8] w fun e w' => ∃ (u : Value) (m : List Pu.CallD), e = .returned u ∧ OwnL w' w.heap.size 37 4 callEn u m ∧ (m.length ≤ 8 ∧ ∀ x ∈ m, DrawnX x) ∧ Cur w' g l ∧ w.grownBy w' (some g) := by
  obtain ⟨i0, hi, hz0, hz1, hz2⟩ := info_parts info_call
  go_enter Tryz.func82, Tryz.ntmps82
  have hown0 : OwnL (w.alloc (.cells #[] 37 : Obj)) w.heap.size 37 4 callEn (.slice (some ⟨w.heap.size, 0, none⟩) 0 0) ([] : List Pu.CallD) := World.ownsRow_made w #[] 0 (Nat.le_refl _) (Nat.zero_le _) rfl
  have hcA := hc.alloc hgs (.cells #[] 37 : Obj)
  have hgA := grown_alloc (grown_refl w (some g)) (.cells #[] 37 : Obj)
  go_wp2_with fail
  refine (l1Below_c _ _ _ _ hcA (by omega)).mono ?_; rintro e w2 ⟨n, rfl, hn0, hn1, hc2, hgr2⟩
  have hn6 := hn1 (by omega)
  obtain ⟨n, rfl⟩ := Int.eq_ofNat_of_zero_le hn0
  have hown2 := own_keep hown0 hgr2 hgs
  have hg2 := grown_trans hgA hgr2
  clear hcA hgA hgr2 hown0
  go_wp2_with fail
  go_loopw [5, 6] (fun u i wr => ∃ (k : Nat) (m : List Pu.CallD), k ≤ 8 ∧ i = .int .i64 k ∧ m.length ≤ 8 - k ∧ Hid (∀ x ∈ m, DrawnX x) ∧ OwnL wr w.heap.size 37 4 callEn u m ∧ Cur wr g l ∧ w.grownBy wr (some g)) (fun _ i _ => (intOf i).toNat)
  case atStart => exact ⟨n, [], by omega, rfl, by simp, (fun x hx => by cases hx), hown2, hc2, hg2⟩
  case round =>
    obtain ⟨k, m, hk, rfl, hm, hD, hown, hcr, hgr⟩ := hrel
    by_cases hlt : (0 : Int) < (k : Int)
    · have hsr : w.heap.size ≤ wr.heap.size := hgr.size
      obtain ⟨Au, cu, rfl⟩ := OwnL.shape hown
      go_wp2_with fail
      refine (l3AnyCall_c _ _ _ hcr (by omega)).mono ?_; rintro e w3 ⟨y, rfl, hy, hc3, hgr3⟩
      have HY := hide hy
      clear hy
      unfold callV
      have hown3 := own_keep hown hgr3 hgs
      have hg3 := grown_trans hgr hgr3
      have hs3 : w.heap.size ≤ w3.heap.size := hg3.size
      go_wp2_with (at_builtin; go_must (refine push_free rfl _ _ 48 (by exact rfl) w.heap.size 37 i0 _ 4 56 Tryz.underlying48 hi hz0 hz1 hz2 rfl (by decide) callEn _ _ y (by exact rfl) hown3 (by exact rfl) rfl (one_call y) hs3 (by omega) (by decide) ?_); intro v4 w4 hown4 hg4)
      have hgA : w3.grownBy w4 (Value.slice Au m.length cu).ownBlock := grown_trans (grown_alloc (grown_refl w3 _) _) hg4
      have hlo : ∀ j, (Value.slice Au m.length cu).ownBlock = some j → w.heap.size ≤ j := fun j hj => (OwnL.lt hown3 hj).1
      have hc4 : Cur w4 g l := hc3.below (B := w.heap.size) ⟨hgA.os, hgA.tape, hgA.output, hgA.size, fun j hj => hgA.block j (by omega) (fun h9 => by have := hlo j h9.symm; omega)⟩ hgs
      have hg4' : w.grownBy w4 (some g) := ⟨hgA.os.trans hg3.os, hgA.tape.trans hg3.tape, hgA.output.trans hg3.output, Nat.le_trans hg3.size hgA.size, fun j hj hne => (hgA.block j (Nat.lt_of_lt_of_le hj hg3.size) (fun h9 => by have := hlo j h9.symm; omega)).trans (hg3.block j hj hne)⟩
      go_roundw
      case rel => exact ⟨k - 1, _, by omega, by rw [show ((k - 1 : Nat) : Int) = (k : Int) - 1 by omega], by simp; omega, (fun x hx => by rcases List.mem_append.1 hx with hx | hx; exact hD.out x hx; obtain rfl : x = y := (by simpa using hx); exact HY.out), hown4, hc4, hg4'⟩
      case measure => simp [intOf]; omega
    · go_wp2
      go_ret
      exact ⟨_, rfl, m, hown, ⟨by omega, hD.out⟩, hcr, hgr⟩
end Go.Proofs.YtllmcnmongaahaaGreatDoor
/- Calls that are read are of a size. -/
namespace Go.Proofs.YtllmcnmongaahaaGreatDoor
open Go.ChangeShapes Go.WideShapes Go.ChangeAt Go.RowKit
set_option maxRecDepth 100000
theorem Pu.callB_val {x : Pu.CallD} (h : Pu.callB x = true) : 0 ≤ x.value ∧ x.value ≤ 999 := by
  rw [Pu.callB] at h
  rcases Pu.method_cases x.method.toList with ⟨hg, hp, hh, hl⟩ | ⟨hg, hp, hh, hl⟩ | ⟨hg, hp, hh, hl⟩ | ⟨hg, hp, hh, hl⟩ | ⟨hg, hp, hh, hl⟩ <;> rw [hg, hp, hh, hl, Pu.callOf] at h <;> simp [Pu.isNum] at h <;> omega
theorem Pu.candI_size (s : ByteArray) : (Pu.candI s).method.size ≤ s.size ∧ (Pu.candI s).key.size ≤ s.size ∧ (Pu.candI s).text.size ≤ s.size := by
  have h1 := Pu.cutA_size s
  have h2 := Pu.cutR_size s
  have h3 := Pu.cutA_size (Pu.cutR s)
  have h0 : (Pu.nulB).size = 0 := rfl
  unfold Pu.candI Pu.candF
  repeat' split
  all_goals refine ⟨?_, ?_, ?_⟩
  all_goals first
    | exact h1
    | exact h2
    | exact Nat.le_trans h3 h2
    | exact Nat.le_trans (Nat.le_of_eq h0) (Nat.zero_le _)
theorem Pu.read_wf {s : ByteArray} (hs : s.size ≤ 512) (h : Pu.pcallB s = true) : CallD.wf (Pu.pcallC s) ∧ (Pu.pcallC s).text.size ≤ 1048576 := by
  have hb : Pu.callB (Pu.candI s) = true := by
    have h9 := h
    simp only [Pu.pcallB, Pu.goodC, Bool.and_eq_true] at h9
    exact h9.1
  have e : Pu.pcallC s = Pu.candI s := by rw [Pu.pcallC, if_pos h]
  rw [e]
  obtain ⟨h1, h2, h3⟩ := Pu.candI_size s
  have hv := Pu.callB_val hb
  exact ⟨⟨by unfold maxLen; omega, by unfold maxLen; omega, WalkArith.wf_i64 (by omega), by unfold maxLen; omega⟩, by omega⟩
end Go.Proofs.YtllmcnmongaahaaGreatDoor
