/- FnExactCallCore: for every input the law returns true, and its arguments read afterwards as they read before. No condition besides those of the statement itself. -/
import Derived.Test.YtllmcnmongaahaaGreatDoorM0
import Derived.Test.YtllmcnmongaahaaGreatDoorCards
import Derived.Test.YtllmcnmongaahaaGreatDoorTie
import Derived.LaidMore
import Derived.SevenTiedAt
import Derived.Stop.Joined
import Derived.Lay
import Derived.Test.YtllmcnmongaahaaGreatDoorM1
import Derived.Test.YtllmcnmongaahaaGreatDoorInv3
import Derived.Test.YtllmcnmongaahaaGreatDoorM6
import Derived.Test.YtllmcnmongaahaaGreatDoorCore2
import Derived.ShutString
namespace Go.Proofs.YtllmcnmongaahaaGreatDoor.fnExactCallCore
open Go.ChangeShapes Go.WideShapes Go.ChangeAt Go.RowKit
set_option maxRecDepth 100000
open Go.ChangeMaps (open_string shut_string)
set_option linter.unusedVariables false

theorem own : ownKnob Tryz.prog.godebug = none := by kernel_rfl

set_option maxHeartbeats 8000000 in
/-- The walk: the Go text returns true. -/
theorem walk (w : World) (hT : Pow10 w) (hE : ErrSyn w) (hM : MaxC w) (v0 : Value) (a0 : Pu.CoreD) (hv0 : RdCore w v0 a0) (v1 : Value) (a1 : Pu.CallD) (hv1 : IsCallV v1 a1) :
    Calls Tryz.prog 3 #[v0, v1] w fun e w' => e = .returned (.bool true) ∧ Below w.heap.size w w' := by
  obtain ⟨wf0, s0, rfl, r0, z0⟩ := hv0
  obtain ⟨wf1, rfl⟩ := hv1
  have Z0 := hide z0
  have WF0 := hide wf0
  have WF1 := hide wf1
  clear z0 wf0 wf1
  have hlM := hM.lt
  have hlT := hT.lt
  have hlE := hE.lt
  have HM := hide hM
  have HT := hide hT
  have HE := hide hE
  clear hM hT hE
  by_cases hs : (a0.kind.size + a0.cells.length + Pu.tot (a0.cells.map (·.key)) : Int) ≤ 1048576
  · have hsz : Hid (Pu.szCore a0 1048576 = 1048576 - (a0.kind.size + a0.cells.length + Pu.tot (a0.cells.map (·.key)) : Int)) := by rw [Hid, Pu.szCore, if_pos hs]
    obtain ⟨L1, hL1⟩ : ∃ L1 : Int, L1 = 1048576 - (a0.kind.size + a0.cells.length + Pu.tot (a0.cells.map (·.key)) : Int) := ⟨_, rfl⟩
    rw [← hL1] at hsz
    have hLa : 0 ≤ L1 := by omega
    have hLb : L1 ≤ 1048576 := by omega
    have hln : a0.cells.length ≤ 1048576 := by omega
    clear hL1 hs
    obtain ⟨⟨⟨k1, o1, b1, l1, n1⟩, ⟨c1, v1, t1, wa1, hh1⟩⟩, HR⟩ : ∃ R : Pu.CoreD × Pu.ReplyD, Hid (Pu.callF a0 a1 = R) := ⟨_, rfl⟩
    have hl1 : l1.length ≤ 2097152 := Pu.callF_len HR.out hln
    unfold coreV callV
    go_enter Tryz.func3, Tryz.ntmps3
    obtain ⟨w0, hw0⟩ : ∃ w0, Hid ((w.alloc (.cells #[.string a0.kind, .bool a0.on, .bool a0.broken, s0, .int .i64 a0.count] 24 : Obj)).alloc (.cells #[.string a1.method, .string a1.key, .int .i64 a1.value, .string a1.text] 26 : Obj) = w0) := ⟨_, rfl⟩
    have BW : Below w.heap.size w w0 := by rw [← hw0.out]; exact below_alloc (below_alloc (Below.refl _ _) _) _
    have RP := hide (show w0.heap[w.heap.size]? = some (.cells #[.string a0.kind, .bool a0.on, .bool a0.broken, s0, .int .i64 a0.count] 24 (0, 0) : Obj) by rw [← hw0.out]; exact heap_old (by simp) (heap_new rfl))
    have RX := hide (show w0.heap[w.heap.size + 1]? = some (.cells #[.string a1.method, .string a1.key, .int .i64 a1.value, .string a1.text] 26 (0, 0) : Obj) by rw [← hw0.out]; exact heap_new (by simp))
    go_wp2_with fail
    rw [hw0.out]
    refine (szCore_c a0 s0 1048576 _ WF0.out (RdCells.below ⟨r0, Z0.out⟩ BW) (by omega) (by omega)).mono ?_; rintro e W1 ⟨rfl, y1⟩
    rw [hsz.out]
    have RP := hide (show W1.heap[w.heap.size]? = some (.cells #[.string a0.kind, .bool a0.on, .bool a0.broken, s0, .int .i64 a0.count] 24 (0, 0) : Obj) from row_on y1 RP.out)
    have RX := hide (show W1.heap[w.heap.size + 1]? = some (.cells #[.string a1.method, .string a1.key, .int .i64 a1.value, .string a1.text] 26 (0, 0) : Obj) from row_on y1 RX.out)
    have BW := below_then BW y1
    obtain ⟨_, _, _, _, _, _⟩ := five_cells RP.out
    obtain ⟨_, _, _, _, _⟩ := four_cells RX.out
    go_wp2_with fail
    refine (szCall3_c a1 _ _ WF1.out hLa hLb).mono ?_
    rintro e W2 ⟨he, y2⟩
    have RP := hide (show W2.heap[w.heap.size]? = some (.cells #[.string a0.kind, .bool a0.on, .bool a0.broken, s0, .int .i64 a0.count] 24 (0, 0) : Obj) from row_on y2 RP.out)
    have RX := hide (show W2.heap[w.heap.size + 1]? = some (.cells #[.string a1.method, .string a1.key, .int .i64 a1.value, .string a1.text] 26 (0, 0) : Obj) from row_on y2 RX.out)
    have BW := below_then BW y2
    rcases he with rfl | ⟨N, hN0, hN1, htx, rfl⟩
    · go_wp2
      go_ret
      exact ⟨rfl, BW⟩
    have hNn : ¬ N < 0 := by omega
    obtain ⟨_, _, _, _, _, _⟩ := five_cells RP.out
    obtain ⟨_, _, _, _, _⟩ := four_cells RX.out
    go_upto_region 8 with fail
    have hzP : w.heap.size < W2.heap.size := (Array.getElem?_eq_some_iff.1 RP.out).1
    have hzX : w.heap.size + 1 < W2.heap.size := (Array.getElem?_eq_some_iff.1 RX.out).1
    go_cut [6, 7] from 16 (fun s1 s2 wx => ∃ g6 g7 A6 c6, s1 = .pointer (some ⟨g6, 0, none⟩) ∧ s2 = .pointer (some ⟨g7, 0, none⟩) ∧ wx.heap[g6]? = some (.cells #[.string k1, .bool o1, .bool b1, .slice A6 l1.length c6, .int .i64 n1] 31 (0, 0) : Obj) ∧ wx.heap[g7]? = some (.cells #[.int .i64 c1, .int .i64 v1, .string t1, .int .i64 wa1, .int .i64 hh1] 33 (0, 0) : Obj) ∧ OwnL wx W2.heap.size 63 2 cellEn (.slice A6 l1.length c6) l1 ∧ Below W2.heap.size W2 wx)
    case first =>
      have h0inv : Below W2.heap.size W2 W2.drew := (Below.refl _ _).drew
      obtain ⟨G, hGdef⟩ : ∃ G : Nat → Value → World → Prop, G = (fun j v wx => match j with | 0 => (v = .agg #[.string a0.kind, .bool a0.on, .bool a0.broken, s0, .int .i64 a0.count]) | 1 => (∃ s, v = .agg #[.string a0.kind, .bool a0.on, .bool a0.broken, s, .int .i64 a0.count] ∧ OwnL wx W2.heap.size 63 2 cellEn s a0.cells) | 2 => (v = .agg #[.string a1.method, .string a1.key, .int .i64 a1.value, .string a1.text]) | 3 => (v = .agg #[.string a1.method, .string a1.key, .int .i64 a1.value, .string a1.text]) | 4 => (∃ A c, v = .tuple #[.agg #[.string k1, .bool o1, .bool b1, .slice A l1.length c, .int .i64 n1], .agg #[.int .i64 c1, .int .i64 v1, .string t1, .int .i64 wa1, .int .i64 hh1]] ∧ OwnL wx W2.heap.size 63 2 cellEn (.slice A l1.length c) l1) | 5 => (∃ A c, v = .tuple #[.agg #[.string k1, .bool o1, .bool b1, .slice A l1.length c, .int .i64 n1], .agg #[.int .i64 c1, .int .i64 v1, .string t1, .int .i64 wa1, .int .i64 hh1]] ∧ OwnL wx W2.heap.size 63 2 cellEn (.slice A l1.length c) l1) | 6 => (∃ A c, v = .agg #[.string k1, .bool o1, .bool b1, .slice A l1.length c, .int .i64 n1] ∧ OwnL wx W2.heap.size 63 2 cellEn (.slice A l1.length c) l1) | 7 => (v = .agg #[.int .i64 c1, .int .i64 v1, .string t1, .int .i64 wa1, .int .i64 hh1]) | 8 => (BlkG W2.heap.size 31 5 v wx) | 9 => (BlkG W2.heap.size 33 5 v wx) | 10 => (FinG W2.heap.size 31 (fun cs wx => ∃ A c, cs = #[.string k1, .bool o1, .bool b1, .slice A l1.length c, .int .i64 n1] ∧ OwnL wx W2.heap.size 63 2 cellEn (.slice A l1.length c) l1) v wx) | 11 => (FinG W2.heap.size 33 (fun cs wx => cs = #[.int .i64 c1, .int .i64 v1, .string t1, .int .i64 wa1, .int .i64 hh1]) v wx) | _ => True) := ⟨_, rfl⟩
      have G0 : ∀ v wx, G 0 v wx = (v = .agg #[.string a0.kind, .bool a0.on, .bool a0.broken, s0, .int .i64 a0.count]) := fun v wx => (congrFun (congrFun (congrFun hGdef 0) v) wx).trans rfl
      have G1 : ∀ v wx, G 1 v wx = (∃ s, v = .agg #[.string a0.kind, .bool a0.on, .bool a0.broken, s, .int .i64 a0.count] ∧ OwnL wx W2.heap.size 63 2 cellEn s a0.cells) := fun v wx => (congrFun (congrFun (congrFun hGdef 1) v) wx).trans rfl
      have G2 : ∀ v wx, G 2 v wx = (v = .agg #[.string a1.method, .string a1.key, .int .i64 a1.value, .string a1.text]) := fun v wx => (congrFun (congrFun (congrFun hGdef 2) v) wx).trans rfl
      have G3 : ∀ v wx, G 3 v wx = (v = .agg #[.string a1.method, .string a1.key, .int .i64 a1.value, .string a1.text]) := fun v wx => (congrFun (congrFun (congrFun hGdef 3) v) wx).trans rfl
      have G4 : ∀ v wx, G 4 v wx = (∃ A c, v = .tuple #[.agg #[.string k1, .bool o1, .bool b1, .slice A l1.length c, .int .i64 n1], .agg #[.int .i64 c1, .int .i64 v1, .string t1, .int .i64 wa1, .int .i64 hh1]] ∧ OwnL wx W2.heap.size 63 2 cellEn (.slice A l1.length c) l1) := fun v wx => (congrFun (congrFun (congrFun hGdef 4) v) wx).trans rfl
      have G5 : ∀ v wx, G 5 v wx = (∃ A c, v = .tuple #[.agg #[.string k1, .bool o1, .bool b1, .slice A l1.length c, .int .i64 n1], .agg #[.int .i64 c1, .int .i64 v1, .string t1, .int .i64 wa1, .int .i64 hh1]] ∧ OwnL wx W2.heap.size 63 2 cellEn (.slice A l1.length c) l1) := fun v wx => (congrFun (congrFun (congrFun hGdef 5) v) wx).trans rfl
      have G6 : ∀ v wx, G 6 v wx = (∃ A c, v = .agg #[.string k1, .bool o1, .bool b1, .slice A l1.length c, .int .i64 n1] ∧ OwnL wx W2.heap.size 63 2 cellEn (.slice A l1.length c) l1) := fun v wx => (congrFun (congrFun (congrFun hGdef 6) v) wx).trans rfl
      have G7 : ∀ v wx, G 7 v wx = (v = .agg #[.int .i64 c1, .int .i64 v1, .string t1, .int .i64 wa1, .int .i64 hh1]) := fun v wx => (congrFun (congrFun (congrFun hGdef 7) v) wx).trans rfl
      have G8 : ∀ v wx, G 8 v wx = (BlkG W2.heap.size 31 5 v wx) := fun v wx => (congrFun (congrFun (congrFun hGdef 8) v) wx).trans rfl
      have G9 : ∀ v wx, G 9 v wx = (BlkG W2.heap.size 33 5 v wx) := fun v wx => (congrFun (congrFun (congrFun hGdef 9) v) wx).trans rfl
      have G10 : ∀ v wx, G 10 v wx = (FinG W2.heap.size 31 (fun cs wx => ∃ A c, cs = #[.string k1, .bool o1, .bool b1, .slice A l1.length c, .int .i64 n1] ∧ OwnL wx W2.heap.size 63 2 cellEn (.slice A l1.length c) l1) v wx) := fun v wx => (congrFun (congrFun (congrFun hGdef 10) v) wx).trans rfl
      have G11 : ∀ v wx, G 11 v wx = (FinG W2.heap.size 33 (fun cs wx => cs = #[.int .i64 c1, .int .i64 v1, .string t1, .int .i64 wa1, .int .i64 hh1]) v wx) := fun v wx => (congrFun (congrFun (congrFun hGdef 11) v) wx).trans rfl
      have Gn : ∀ j v wx, G (j + 12) v wx = True := fun j v wx => (congrFun (congrFun (congrFun hGdef _) v) wx).trans rfl
      clear hGdef
      have firm0 : ∀ j v, Firm [] (G j v) := by
        intro j v
        match j with
        | 0 => rw [show G 0 v = (fun wx => v = .agg #[.string a0.kind, .bool a0.on, .bool a0.broken, s0, .int .i64 a0.count]) from funext (G0 v)]; exact firm_const _
        | 1 => rw [show G 1 v = (fun wx => ∃ s, v = .agg #[.string a0.kind, .bool a0.on, .bool a0.broken, s, .int .i64 a0.count] ∧ OwnL wx W2.heap.size 63 2 cellEn s a0.cells) from funext (G1 v)]; exact firm_ex fun _ => firm_and (firm_const _) (firm_own (by decide))
        | 2 => rw [show G 2 v = (fun wx => v = .agg #[.string a1.method, .string a1.key, .int .i64 a1.value, .string a1.text]) from funext (G2 v)]; exact firm_const _
        | 3 => rw [show G 3 v = (fun wx => v = .agg #[.string a1.method, .string a1.key, .int .i64 a1.value, .string a1.text]) from funext (G3 v)]; exact firm_const _
        | 4 => rw [show G 4 v = (fun wx => ∃ A c, v = .tuple #[.agg #[.string k1, .bool o1, .bool b1, .slice A l1.length c, .int .i64 n1], .agg #[.int .i64 c1, .int .i64 v1, .string t1, .int .i64 wa1, .int .i64 hh1]] ∧ OwnL wx W2.heap.size 63 2 cellEn (.slice A l1.length c) l1) from funext (G4 v)]; exact firm_ex fun _ => firm_ex fun _ => firm_and (firm_const _) (firm_own (by decide))
        | 5 => rw [show G 5 v = (fun wx => ∃ A c, v = .tuple #[.agg #[.string k1, .bool o1, .bool b1, .slice A l1.length c, .int .i64 n1], .agg #[.int .i64 c1, .int .i64 v1, .string t1, .int .i64 wa1, .int .i64 hh1]] ∧ OwnL wx W2.heap.size 63 2 cellEn (.slice A l1.length c) l1) from funext (G5 v)]; exact firm_ex fun _ => firm_ex fun _ => firm_and (firm_const _) (firm_own (by decide))
        | 6 => rw [show G 6 v = (fun wx => ∃ A c, v = .agg #[.string k1, .bool o1, .bool b1, .slice A l1.length c, .int .i64 n1] ∧ OwnL wx W2.heap.size 63 2 cellEn (.slice A l1.length c) l1) from funext (G6 v)]; exact firm_ex fun _ => firm_ex fun _ => firm_and (firm_const _) (firm_own (by decide))
        | 7 => rw [show G 7 v = (fun wx => v = .agg #[.int .i64 c1, .int .i64 v1, .string t1, .int .i64 wa1, .int .i64 hh1]) from funext (G7 v)]; exact firm_const _
        | 8 => rw [show G 8 v = (fun wx => BlkG W2.heap.size 31 5 v wx) from funext (G8 v)]; exact firm_blk
        | 9 => rw [show G 9 v = (fun wx => BlkG W2.heap.size 33 5 v wx) from funext (G9 v)]; exact firm_blk
        | 10 => rw [show G 10 v = (fun wx => FinG W2.heap.size 31 (fun cs wx => ∃ A c, cs = #[.string k1, .bool o1, .bool b1, .slice A l1.length c, .int .i64 n1] ∧ OwnL wx W2.heap.size 63 2 cellEn (.slice A l1.length c) l1) v wx) from funext (G10 v)]; exact firm_fin (by decide) (fun _ => firm_ex fun _ => firm_ex fun _ => firm_and (firm_const _) (firm_own (by decide)))
        | 11 => rw [show G 11 v = (fun wx => FinG W2.heap.size 33 (fun cs wx => cs = #[.int .i64 c1, .int .i64 v1, .string t1, .int .i64 wa1, .int .i64 hh1]) v wx) from funext (G11 v)]; exact firm_fin (by decide) (fun _ => firm_const _)
        | j + 12 => rw [show G (j + 12) v = (fun wx => True) from funext (Gn j v)]; exact firm_const _
      have firm1 : ∀ j v, j ≠ 10 → Firm [31] (G j v) := by
        intro j v
        match j with
        | 0 => intro h10; rw [show G 0 v = (fun wx => v = .agg #[.string a0.kind, .bool a0.on, .bool a0.broken, s0, .int .i64 a0.count]) from funext (G0 v)]; exact firm_const _
        | 1 => intro h10; rw [show G 1 v = (fun wx => ∃ s, v = .agg #[.string a0.kind, .bool a0.on, .bool a0.broken, s, .int .i64 a0.count] ∧ OwnL wx W2.heap.size 63 2 cellEn s a0.cells) from funext (G1 v)]; exact firm_ex fun _ => firm_and (firm_const _) (firm_own (by decide))
        | 2 => intro h10; rw [show G 2 v = (fun wx => v = .agg #[.string a1.method, .string a1.key, .int .i64 a1.value, .string a1.text]) from funext (G2 v)]; exact firm_const _
        | 3 => intro h10; rw [show G 3 v = (fun wx => v = .agg #[.string a1.method, .string a1.key, .int .i64 a1.value, .string a1.text]) from funext (G3 v)]; exact firm_const _
        | 4 => intro h10; rw [show G 4 v = (fun wx => ∃ A c, v = .tuple #[.agg #[.string k1, .bool o1, .bool b1, .slice A l1.length c, .int .i64 n1], .agg #[.int .i64 c1, .int .i64 v1, .string t1, .int .i64 wa1, .int .i64 hh1]] ∧ OwnL wx W2.heap.size 63 2 cellEn (.slice A l1.length c) l1) from funext (G4 v)]; exact firm_ex fun _ => firm_ex fun _ => firm_and (firm_const _) (firm_own (by decide))
        | 5 => intro h10; rw [show G 5 v = (fun wx => ∃ A c, v = .tuple #[.agg #[.string k1, .bool o1, .bool b1, .slice A l1.length c, .int .i64 n1], .agg #[.int .i64 c1, .int .i64 v1, .string t1, .int .i64 wa1, .int .i64 hh1]] ∧ OwnL wx W2.heap.size 63 2 cellEn (.slice A l1.length c) l1) from funext (G5 v)]; exact firm_ex fun _ => firm_ex fun _ => firm_and (firm_const _) (firm_own (by decide))
        | 6 => intro h10; rw [show G 6 v = (fun wx => ∃ A c, v = .agg #[.string k1, .bool o1, .bool b1, .slice A l1.length c, .int .i64 n1] ∧ OwnL wx W2.heap.size 63 2 cellEn (.slice A l1.length c) l1) from funext (G6 v)]; exact firm_ex fun _ => firm_ex fun _ => firm_and (firm_const _) (firm_own (by decide))
        | 7 => intro h10; rw [show G 7 v = (fun wx => v = .agg #[.int .i64 c1, .int .i64 v1, .string t1, .int .i64 wa1, .int .i64 hh1]) from funext (G7 v)]; exact firm_const _
        | 8 => intro h10; rw [show G 8 v = (fun wx => BlkG W2.heap.size 31 5 v wx) from funext (G8 v)]; exact firm_blk
        | 9 => intro h10; rw [show G 9 v = (fun wx => BlkG W2.heap.size 33 5 v wx) from funext (G9 v)]; exact firm_blk
        | 10 => intro h10; exact absurd rfl h10
        | 11 => intro h10; rw [show G 11 v = (fun wx => FinG W2.heap.size 33 (fun cs wx => cs = #[.int .i64 c1, .int .i64 v1, .string t1, .int .i64 wa1, .int .i64 hh1]) v wx) from funext (G11 v)]; exact firm_fin (by decide) (fun _ => firm_const _)
        | j + 12 => intro _; rw [show G (j + 12) v = (fun wx => True) from funext (Gn j v)]; exact firm_const _
      have firm2 : ∀ j v, j ≠ 11 → Firm [33] (G j v) := by
        intro j v
        match j with
        | 0 => intro h11; rw [show G 0 v = (fun wx => v = .agg #[.string a0.kind, .bool a0.on, .bool a0.broken, s0, .int .i64 a0.count]) from funext (G0 v)]; exact firm_const _
        | 1 => intro h11; rw [show G 1 v = (fun wx => ∃ s, v = .agg #[.string a0.kind, .bool a0.on, .bool a0.broken, s, .int .i64 a0.count] ∧ OwnL wx W2.heap.size 63 2 cellEn s a0.cells) from funext (G1 v)]; exact firm_ex fun _ => firm_and (firm_const _) (firm_own (by decide))
        | 2 => intro h11; rw [show G 2 v = (fun wx => v = .agg #[.string a1.method, .string a1.key, .int .i64 a1.value, .string a1.text]) from funext (G2 v)]; exact firm_const _
        | 3 => intro h11; rw [show G 3 v = (fun wx => v = .agg #[.string a1.method, .string a1.key, .int .i64 a1.value, .string a1.text]) from funext (G3 v)]; exact firm_const _
        | 4 => intro h11; rw [show G 4 v = (fun wx => ∃ A c, v = .tuple #[.agg #[.string k1, .bool o1, .bool b1, .slice A l1.length c, .int .i64 n1], .agg #[.int .i64 c1, .int .i64 v1, .string t1, .int .i64 wa1, .int .i64 hh1]] ∧ OwnL wx W2.heap.size 63 2 cellEn (.slice A l1.length c) l1) from funext (G4 v)]; exact firm_ex fun _ => firm_ex fun _ => firm_and (firm_const _) (firm_own (by decide))
        | 5 => intro h11; rw [show G 5 v = (fun wx => ∃ A c, v = .tuple #[.agg #[.string k1, .bool o1, .bool b1, .slice A l1.length c, .int .i64 n1], .agg #[.int .i64 c1, .int .i64 v1, .string t1, .int .i64 wa1, .int .i64 hh1]] ∧ OwnL wx W2.heap.size 63 2 cellEn (.slice A l1.length c) l1) from funext (G5 v)]; exact firm_ex fun _ => firm_ex fun _ => firm_and (firm_const _) (firm_own (by decide))
        | 6 => intro h11; rw [show G 6 v = (fun wx => ∃ A c, v = .agg #[.string k1, .bool o1, .bool b1, .slice A l1.length c, .int .i64 n1] ∧ OwnL wx W2.heap.size 63 2 cellEn (.slice A l1.length c) l1) from funext (G6 v)]; exact firm_ex fun _ => firm_ex fun _ => firm_and (firm_const _) (firm_own (by decide))
        | 7 => intro h11; rw [show G 7 v = (fun wx => v = .agg #[.int .i64 c1, .int .i64 v1, .string t1, .int .i64 wa1, .int .i64 hh1]) from funext (G7 v)]; exact firm_const _
        | 8 => intro h11; rw [show G 8 v = (fun wx => BlkG W2.heap.size 31 5 v wx) from funext (G8 v)]; exact firm_blk
        | 9 => intro h11; rw [show G 9 v = (fun wx => BlkG W2.heap.size 33 5 v wx) from funext (G9 v)]; exact firm_blk
        | 10 => intro h11; rw [show G 10 v = (fun wx => FinG W2.heap.size 31 (fun cs wx => ∃ A c, cs = #[.string k1, .bool o1, .bool b1, .slice A l1.length c, .int .i64 n1] ∧ OwnL wx W2.heap.size 63 2 cellEn (.slice A l1.length c) l1) v wx) from funext (G10 v)]; exact firm_fin (by decide) (fun _ => firm_ex fun _ => firm_ex fun _ => firm_and (firm_const _) (firm_own (by decide)))
        | 11 => intro h11; exact absurd rfl h11
        | j + 12 => intro _; rw [show G (j + 12) v = (fun wx => True) from funext (Gn j v)]; exact firm_const _
      refine wp_region_abs W2.heap.size W2 [6, 7, 26, 27, 28, 29, 30, 31, 32, 33] (fun j => match j with | 0 => 27 | 1 => 28 | 2 => 29 | 3 => 30 | 4 => 31 | 5 => 26 | 6 => 32 | 7 => 33 | 8 => 6 | 9 => 7 | 10 => 6 | 11 => 7 | _ => 0) (fun j => match j with | 0 => [] | 1 => [0] | 2 => [] | 3 => [2] | 4 => [0, 1, 2, 3] | 5 => [0, 1, 2, 3, 4] | 6 => [0, 1, 2, 3, 4, 5] | 7 => [0, 1, 2, 3, 4, 5] | 8 => [] | 9 => [] | 10 => [0, 1, 2, 3, 4, 5, 6, 8] | 11 => [0, 1, 2, 3, 4, 5, 7, 9] | _ => []) G (fun j => match j with | 0 => [] | 1 => [] | 2 => [] | 3 => [] | 4 => [] | 5 => [] | 6 => [] | 7 => [] | 8 => [] | 9 => [] | 10 => [31] | 11 => [33] | _ => []) 112 (by kernel_rfl) (by kernel_rfl) rfl (by decide) h0inv ?firm0 ?stp0 ?fin0
      case firm0 =>
        intro i j hj _ v
        match i with
        | 0 => exact firm0 j v
        | 1 => exact firm0 j v
        | 2 => exact firm0 j v
        | 3 => exact firm0 j v
        | 4 => exact firm0 j v
        | 5 => exact firm0 j v
        | 6 => exact firm0 j v
        | 7 => exact firm0 j v
        | 8 => exact firm0 j v
        | 9 => exact firm0 j v
        | 10 => exact firm1 j v hj
        | 11 => exact firm2 j v hj
        | i + 12 => exact firm0 j v
      case stp0 =>
        refine StepsFrom.cons ?op0_0 (StepsFrom.cons ?op0_1 (StepsFrom.cons ?op0_2 (StepsFrom.cons ?op0_3 (StepsFrom.cons ?op0_4 (StepsFrom.cons ?op0_5 (StepsFrom.cons ?op0_6 (StepsFrom.cons ?op0_7 (StepsFrom.cons ?op0_8 (StepsFrom.cons ?op0_9 (StepsFrom.cons ?op0_10 (StepsFrom.cons ?op0_11 (StepsFrom.nil))))))))))))
        case op0_0 =>
          intro vs wy b hin hout hb hdep K hK
          have t2 : b.tmps[2]? = some (.pointer (some ⟨w.heap.size, 0, none⟩)) := (hout 2 (by decide)).trans rfl
          clear hin hout hdep
          replace hK : ∀ v w', Below W2.heap.size W2 w' → Moved [] wy w' → (fun (v : Value) (wx : World) => v = .agg #[.string a0.kind, .bool a0.on, .bool a0.broken, s0, .int .i64 a0.count]) v w' → K (b.put (some 27) v) w' := fun v w' q1 q2 q3 => hK v w' q1 q2 (Eq.mpr (G0 _ _) q3)
          refine ⟨wanted_plain rfl, ?_⟩
          have KW : ∀ k : Nat, wy.cell? ⟨w.heap.size, k, none⟩ = _ := fun k => hb.cell hzP
          go_simp
          exact hK _ _ hb (moved_refl _) rfl
        case op0_1 =>
          intro vs wy b hin hout hb hdep K hK
          have h0 : (fun (v : Value) (wx : World) => v = .agg #[.string a0.kind, .bool a0.on, .bool a0.broken, s0, .int .i64 a0.count]) (vs 27) wy := by
            have h := hdep 0 (by decide)
            rw [G0] at h
            exact h
          dsimp only at h0
          have t27 := hin 27 (by decide)
          clear hin hout hdep
          replace hK : ∀ v w', Below W2.heap.size W2 w' → Moved [] wy w' → (fun (v : Value) (wx : World) => ∃ s, v = .agg #[.string a0.kind, .bool a0.on, .bool a0.broken, s, .int .i64 a0.count] ∧ OwnL wx W2.heap.size 63 2 cellEn s a0.cells) v w' → K (b.put (some 28) v) w' := fun v w' q1 q2 q3 => hK v w' q1 q2 (Eq.mpr (G1 _ _) q3)
          refine ⟨wanted_plain rfl, ?_⟩
          go_simp
          refine (toCore_c a0 s0 _ (RdL.below (RdL.below r0 BW (Nat.le_refl _)) hb (Nat.le_refl _)) hln).mono ?_
          rintro e wz ⟨vT, rfl, oT, bT⟩
          exact hK _ _ (below_then hb bT) (.inl bT) ⟨vT, rfl, OwnL.mono oT hb.size⟩
        case op0_2 =>
          intro vs wy b hin hout hb hdep K hK
          have t3 : b.tmps[3]? = some (.pointer (some ⟨w.heap.size + 1, 0, none⟩)) := (hout 3 (by decide)).trans rfl
          clear hin hout hdep
          replace hK : ∀ v w', Below W2.heap.size W2 w' → Moved [] wy w' → (fun (v : Value) (wx : World) => v = .agg #[.string a1.method, .string a1.key, .int .i64 a1.value, .string a1.text]) v w' → K (b.put (some 29) v) w' := fun v w' q1 q2 q3 => hK v w' q1 q2 (Eq.mpr (G2 _ _) q3)
          refine ⟨wanted_plain rfl, ?_⟩
          have KW : ∀ k : Nat, wy.cell? ⟨w.heap.size + 1, k, none⟩ = _ := fun k => hb.cell hzX
          go_simp
          exact hK _ _ hb (moved_refl _) rfl
        case op0_3 =>
          intro vs wy b hin hout hb hdep K hK
          have h2 : (fun (v : Value) (wx : World) => v = .agg #[.string a1.method, .string a1.key, .int .i64 a1.value, .string a1.text]) (vs 29) wy := by
            have h := hdep 2 (by decide)
            rw [G2] at h
            exact h
          dsimp only at h2
          have t29 := hin 29 (by decide)
          clear hin hout hdep
          replace hK : ∀ v w', Below W2.heap.size W2 w' → Moved [] wy w' → (fun (v : Value) (wx : World) => v = .agg #[.string a1.method, .string a1.key, .int .i64 a1.value, .string a1.text]) v w' → K (b.put (some 30) v) w' := fun v w' q1 q2 q3 => hK v w' q1 q2 (Eq.mpr (G3 _ _) q3)
          refine ⟨wanted_plain rfl, ?_⟩
          go_simp
          refine (toCall_c a1 _).mono ?_
          rintro e wz ⟨rfl, bT⟩
          exact hK _ _ (below_then hb bT) (.inl bT) rfl
        case op0_4 =>
          intro vs wy b hin hout hb hdep K hK
          have h1 : (fun (v : Value) (wx : World) => ∃ s, v = .agg #[.string a0.kind, .bool a0.on, .bool a0.broken, s, .int .i64 a0.count] ∧ OwnL wx W2.heap.size 63 2 cellEn s a0.cells) (vs 28) wy := by
            have h := hdep 1 (by decide)
            rw [G1] at h
            exact h
          dsimp only at h1
          have h3 : (fun (v : Value) (wx : World) => v = .agg #[.string a1.method, .string a1.key, .int .i64 a1.value, .string a1.text]) (vs 30) wy := by
            have h := hdep 3 (by decide)
            rw [G3] at h
            exact h
          dsimp only at h3
          have t28 := hin 28 (by decide)
          have t30 := hin 30 (by decide)
          clear hin hout hdep
          replace hK : ∀ v w', Below W2.heap.size W2 w' → Moved [] wy w' → (fun (v : Value) (wx : World) => ∃ A c, v = .tuple #[.agg #[.string k1, .bool o1, .bool b1, .slice A l1.length c, .int .i64 n1], .agg #[.int .i64 c1, .int .i64 v1, .string t1, .int .i64 wa1, .int .i64 hh1]] ∧ OwnL wx W2.heap.size 63 2 cellEn (.slice A l1.length c) l1) v w' → K (b.put (some 31) v) w' := fun v w' q1 q2 q3 => hK v w' q1 q2 (Eq.mpr (G4 _ _) q3)
          refine ⟨wanted_plain rfl, ?_⟩
          obtain ⟨sC, eC, oC⟩ := h1
          have eX := h3
          go_simp
          refine (sCallCore_x a0 a1 _ _ k1 t1 o1 b1 l1 n1 c1 v1 wa1 hh1 WF0.out WF1.out ⟨oC.rd (fun _ => rfl), Z0.out⟩ (by omega) htx HR).mono ?_
          rintro e wz ⟨A9, c9, rfl, oS, bS⟩
          exact hK _ _ (below_then hb bS) (.inl bS) ⟨A9, c9, rfl, OwnL.mono oS hb.size⟩
        case op0_5 =>
          intro vs wy b hin hout hb hdep K hK
          have h4 : (fun (v : Value) (wx : World) => ∃ A c, v = .tuple #[.agg #[.string k1, .bool o1, .bool b1, .slice A l1.length c, .int .i64 n1], .agg #[.int .i64 c1, .int .i64 v1, .string t1, .int .i64 wa1, .int .i64 hh1]] ∧ OwnL wx W2.heap.size 63 2 cellEn (.slice A l1.length c) l1) (vs 31) wy := by
            have h := hdep 4 (by decide)
            rw [G4] at h
            exact h
          dsimp only at h4
          have t31 := hin 31 (by decide)
          clear hin hout hdep
          replace hK : ∀ v w', Below W2.heap.size W2 w' → Moved [] wy w' → (fun (v : Value) (wx : World) => ∃ A c, v = .tuple #[.agg #[.string k1, .bool o1, .bool b1, .slice A l1.length c, .int .i64 n1], .agg #[.int .i64 c1, .int .i64 v1, .string t1, .int .i64 wa1, .int .i64 hh1]] ∧ OwnL wx W2.heap.size 63 2 cellEn (.slice A l1.length c) l1) v w' → K (b.put (some 26) v) w' := fun v w' q1 q2 q3 => hK v w' q1 q2 (Eq.mpr (G5 _ _) q3)
          refine ⟨wanted_plain rfl, ?_⟩
          obtain ⟨A9, c9, e9, o9⟩ := h4
          go_simp
          exact hK _ _ hb (moved_refl _) ⟨A9, c9, rfl, o9⟩
        case op0_6 =>
          intro vs wy b hin hout hb hdep K hK
          have h5 : (fun (v : Value) (wx : World) => ∃ A c, v = .tuple #[.agg #[.string k1, .bool o1, .bool b1, .slice A l1.length c, .int .i64 n1], .agg #[.int .i64 c1, .int .i64 v1, .string t1, .int .i64 wa1, .int .i64 hh1]] ∧ OwnL wx W2.heap.size 63 2 cellEn (.slice A l1.length c) l1) (vs 26) wy := by
            have h := hdep 5 (by decide)
            rw [G5] at h
            exact h
          dsimp only at h5
          have t26 := hin 26 (by decide)
          clear hin hout hdep
          replace hK : ∀ v w', Below W2.heap.size W2 w' → Moved [] wy w' → (fun (v : Value) (wx : World) => ∃ A c, v = .agg #[.string k1, .bool o1, .bool b1, .slice A l1.length c, .int .i64 n1] ∧ OwnL wx W2.heap.size 63 2 cellEn (.slice A l1.length c) l1) v w' → K (b.put (some 32) v) w' := fun v w' q1 q2 q3 => hK v w' q1 q2 (Eq.mpr (G6 _ _) q3)
          refine ⟨wanted_plain rfl, ?_⟩
          obtain ⟨A9, c9, e9, o9⟩ := h5
          go_simp
          exact hK _ _ hb (moved_refl _) ⟨A9, c9, rfl, o9⟩
        case op0_7 =>
          intro vs wy b hin hout hb hdep K hK
          have h5 : (fun (v : Value) (wx : World) => ∃ A c, v = .tuple #[.agg #[.string k1, .bool o1, .bool b1, .slice A l1.length c, .int .i64 n1], .agg #[.int .i64 c1, .int .i64 v1, .string t1, .int .i64 wa1, .int .i64 hh1]] ∧ OwnL wx W2.heap.size 63 2 cellEn (.slice A l1.length c) l1) (vs 26) wy := by
            have h := hdep 5 (by decide)
            rw [G5] at h
            exact h
          dsimp only at h5
          have t26 := hin 26 (by decide)
          clear hin hout hdep
          replace hK : ∀ v w', Below W2.heap.size W2 w' → Moved [] wy w' → (fun (v : Value) (wx : World) => v = .agg #[.int .i64 c1, .int .i64 v1, .string t1, .int .i64 wa1, .int .i64 hh1]) v w' → K (b.put (some 33) v) w' := fun v w' q1 q2 q3 => hK v w' q1 q2 (Eq.mpr (G7 _ _) q3)
          refine ⟨wanted_plain rfl, ?_⟩
          obtain ⟨A9, c9, e9, o9⟩ := h5
          go_simp
          exact hK _ _ hb (moved_refl _) rfl
        case op0_8 =>
          intro vs wy b hin hout hb hdep K hK
          clear hin hout hdep
          replace hK : ∀ v w', Below W2.heap.size W2 w' → Moved [] wy w' → (fun (v : Value) (wx : World) => BlkG W2.heap.size 31 5 v wx) v w' → K (b.put (some 6) v) w' := fun v w' q1 q2 q3 => hK v w' q1 q2 (Eq.mpr (G8 _ _) q3)
          refine ⟨wanted_plain rfl, ?_⟩
          go_simp
          exact hK _ _ (below_alloc hb _) (.inl (below_alloc (Below.refl _ _) _)) ⟨_, _, rfl, hb.size, heap_new rfl, rfl⟩
        case op0_9 =>
          intro vs wy b hin hout hb hdep K hK
          clear hin hout hdep
          replace hK : ∀ v w', Below W2.heap.size W2 w' → Moved [] wy w' → (fun (v : Value) (wx : World) => BlkG W2.heap.size 33 5 v wx) v w' → K (b.put (some 7) v) w' := fun v w' q1 q2 q3 => hK v w' q1 q2 (Eq.mpr (G9 _ _) q3)
          refine ⟨wanted_plain rfl, ?_⟩
          go_simp
          exact hK _ _ (below_alloc hb _) (.inl (below_alloc (Below.refl _ _) _)) ⟨_, _, rfl, hb.size, heap_new rfl, rfl⟩
        case op0_10 =>
          intro vs wy b hin hout hb hdep K hK
          have h8 : (fun (v : Value) (wx : World) => BlkG W2.heap.size 31 5 v wx) (vs 6) wy := by
            have h := hdep 8 (by decide)
            rw [G8] at h
            exact h
          dsimp only at h8
          have h6 : (fun (v : Value) (wx : World) => ∃ A c, v = .agg #[.string k1, .bool o1, .bool b1, .slice A l1.length c, .int .i64 n1] ∧ OwnL wx W2.heap.size 63 2 cellEn (.slice A l1.length c) l1) (vs 32) wy := by
            have h := hdep 6 (by decide)
            rw [G6] at h
            exact h
          dsimp only at h6
          have t6 := hin 6 (by decide)
          have t32 := hin 32 (by decide)
          clear hin hout hdep
          replace hK : ∀ v w', Below W2.heap.size W2 w' → Moved [31] wy w' → (fun (v : Value) (wx : World) => FinG W2.heap.size 31 (fun cs wx => ∃ A c, cs = #[.string k1, .bool o1, .bool b1, .slice A l1.length c, .int .i64 n1] ∧ OwnL wx W2.heap.size 63 2 cellEn (.slice A l1.length c) l1) v wx) (vs 6) w' → K (b.put (none) v) w' := fun v w' q1 q2 q3 => hK v w' q1 q2 (Eq.mpr (G10 _ _) q3)
          refine ⟨wanted_plain rfl, ?_⟩
          obtain ⟨g9, cs9, e8, hB9, hg9, hn9⟩ := h8
          obtain ⟨x0, x1, x2, x3, x4, rfl⟩ := five_of hn9
          obtain ⟨_, _, _, _, _, _⟩ := five_cells hg9
          obtain ⟨A9, c9, e9, o9⟩ := h6
          go_simp
          have hst := store5 (.string k1) (.bool o1) (.bool b1) (.slice A9 l1.length c9) (.int .i64 n1) hg9 hn9
          refine hK undef _ ?_ (.inr ⟨g9, 31, by simp, hst.2⟩) ⟨g9, _, e8, hB9, hst.1, A9, c9, rfl, firm_own (TS := [31]) (by decide) _ _ (.inr ⟨g9, 31, by simp, hst.2⟩) o9⟩
          obtain ⟨_, _, _, _, _, hgr⟩ := hst.2
          exact Below.grown hb hgr hb.size (fun k hk => by obtain rfl := Option.some.inj hk; exact hB9)
        case op0_11 =>
          intro vs wy b hin hout hb hdep K hK
          have h9 : (fun (v : Value) (wx : World) => BlkG W2.heap.size 33 5 v wx) (vs 7) wy := by
            have h := hdep 9 (by decide)
            rw [G9] at h
            exact h
          dsimp only at h9
          have h7 : (fun (v : Value) (wx : World) => v = .agg #[.int .i64 c1, .int .i64 v1, .string t1, .int .i64 wa1, .int .i64 hh1]) (vs 33) wy := by
            have h := hdep 7 (by decide)
            rw [G7] at h
            exact h
          dsimp only at h7
          have t7 := hin 7 (by decide)
          have t33 := hin 33 (by decide)
          clear hin hout hdep
          replace hK : ∀ v w', Below W2.heap.size W2 w' → Moved [33] wy w' → (fun (v : Value) (wx : World) => FinG W2.heap.size 33 (fun cs wx => cs = #[.int .i64 c1, .int .i64 v1, .string t1, .int .i64 wa1, .int .i64 hh1]) v wx) (vs 7) w' → K (b.put (none) v) w' := fun v w' q1 q2 q3 => hK v w' q1 q2 (Eq.mpr (G11 _ _) q3)
          refine ⟨wanted_plain rfl, ?_⟩
          obtain ⟨g9, cs9, e8, hB9, hg9, hn9⟩ := h9
          obtain ⟨x0, x1, x2, x3, x4, rfl⟩ := five_of hn9
          obtain ⟨_, _, _, _, _, _⟩ := five_cells hg9
          have e9 := h7
          go_simp
          have hst := store5 (.int .i64 c1) (.int .i64 v1) (.string t1) (.int .i64 wa1) (.int .i64 hh1) hg9 hn9
          refine hK undef _ ?_ (.inr ⟨g9, 33, by simp, hst.2⟩) ⟨g9, _, e8, hB9, hst.1, rfl⟩
          obtain ⟨_, _, _, _, _, hgr⟩ := hst.2
          exact Below.grown hb hgr hb.size (fun k hk => by obtain rfl := Option.some.inj hk; exact hB9)
      case fin0 =>
        intro vs wz b hin hbeq hb hall
        have f10 : (fun (v : Value) (wx : World) => FinG W2.heap.size 31 (fun cs wx => ∃ A c, cs = #[.string k1, .bool o1, .bool b1, .slice A l1.length c, .int .i64 n1] ∧ OwnL wx W2.heap.size 63 2 cellEn (.slice A l1.length c) l1) v wx) (vs 6) wz := by
          have h := hall 10 (by decide)
          rw [G10] at h
          exact h
        dsimp only at f10
        have f11 : (fun (v : Value) (wx : World) => FinG W2.heap.size 33 (fun cs wx => cs = #[.int .i64 c1, .int .i64 v1, .string t1, .int .i64 wa1, .int .i64 hh1]) v wx) (vs 7) wz := by
          have h := hall 11 (by decide)
          rw [G11] at h
          exact h
        dsimp only at f11
        clear hall hin
        subst hbeq
        simp only [actAt, slots, List.foldl_cons, List.foldl_nil, List.setIfInBounds_toArray, List.set_cons_zero, List.set_cons_succ]
        obtain ⟨g1, cs1, e1, _, hg1, A1, c1_, rfl, hO1⟩ := f10
        obtain ⟨g2, cs2, e2, _, hg2, rfl⟩ := f11
        go_wp2_with fail
        go_meet
        exact ⟨g1, g2, A1, c1_, (by first | exact e1 | rfl), (by first | exact e2 | rfl), hg1, hg2, hO1, hb⟩
    case rest =>
    obtain ⟨g6, g7, A6, c6, rfl, rfl, hr1, hr2, ho1, hb1⟩ := hcut
    have RC6 := hide hr1
    have RR7 := hide hr2
    have OC6 := hide ho1
    have BXC6 := hide hb1
    clear hr1 hr2 ho1 hb1
    obtain ⟨W3, hxW3⟩ : ∃ W, wc = W := ⟨_, rfl⟩
    rw [hxW3] at RC6 RR7 OC6 BXC6
    rw [hxW3]
    clear hxW3
    have hsW3 := Below.size BXC6.out
    have RP := hide (show W3.heap[w.heap.size]? = some (.cells #[.string a0.kind, .bool a0.on, .bool a0.broken, s0, .int .i64 a0.count] 24 (0, 0) : Obj) from row_on BXC6.out RP.out)
    have RX := hide (show W3.heap[w.heap.size + 1]? = some (.cells #[.string a1.method, .string a1.key, .int .i64 a1.value, .string a1.text] 26 (0, 0) : Obj) from row_on BXC6.out RX.out)
    have BW := below_then BW BXC6.out
    obtain ⟨_, _, _, _, _, _⟩ := five_cells RP.out
    obtain ⟨_, _, _, _, _⟩ := four_cells RX.out
    obtain ⟨_, _, _, _, _, _⟩ := five_cells RC6.out
    obtain ⟨_, _, _, _, _, _⟩ := five_cells RR7.out
    go_wp2_with fail
    refine (toCore_c a0 s0 _ (RdL.below r0 BW (Nat.le_refl _)) hln).mono ?_; rintro e W4 ⟨v8, rfl, o8, y4⟩
    obtain ⟨A8, c8, rfl⟩ := o8.shape
    unfold coreV
    have SEP68 := hide (own_sep OC6.out o8 (Nat.le_refl _))
    have RP := hide (show W4.heap[w.heap.size]? = some (.cells #[.string a0.kind, .bool a0.on, .bool a0.broken, s0, .int .i64 a0.count] 24 (0, 0) : Obj) from row_on y4 RP.out)
    have RX := hide (show W4.heap[w.heap.size + 1]? = some (.cells #[.string a1.method, .string a1.key, .int .i64 a1.value, .string a1.text] 26 (0, 0) : Obj) from row_on y4 RX.out)
    have RC6 := hide (show W4.heap[g6]? = some (.cells #[.string k1, .bool o1, .bool b1, .slice A6 l1.length c6, .int .i64 n1] 31 (0, 0) : Obj) from row_on y4 RC6.out)
    have RR7 := hide (show W4.heap[g7]? = some (.cells #[.int .i64 c1, .int .i64 v1, .string t1, .int .i64 wa1, .int .i64 hh1] 33 (0, 0) : Obj) from row_on y4 RR7.out)
    have OC6 := hide (show OwnL W4 W2.heap.size 63 2 cellEn (.slice A6 l1.length c6) l1 from OwnL.below OC6.out y4 (Nat.le_refl _))
    have BW := below_then BW y4
    have h34 : W3.heap.size ≤ W4.heap.size := y4.size
    obtain ⟨W5, hW5⟩ : ∃ W5, Hid (W4.alloc (.cells #[.string a0.kind, .bool a0.on, .bool a0.broken, .slice A8 a0.cells.length c8, .int .i64 a0.count] 31 : Obj) = W5) := ⟨_, rfl⟩
    have y5 : Below W4.heap.size W4 W5 := by rw [← hW5.out]; exact below_alloc (Below.refl _ _) _
    have OX8 := hide o8
    obtain ⟨_, _, _, _, _, _⟩ := five_cells RP.out
    obtain ⟨_, _, _, _, _⟩ := four_cells RX.out
    obtain ⟨_, _, _, _, _, _⟩ := five_cells RC6.out
    obtain ⟨_, _, _, _, _, _⟩ := five_cells RR7.out
    go_upto_region 10 with fail
    rw [hW5.out]
    have RP := hide (show W5.heap[w.heap.size]? = some (.cells #[.string a0.kind, .bool a0.on, .bool a0.broken, s0, .int .i64 a0.count] 24 (0, 0) : Obj) from row_on y5 RP.out)
    have RX := hide (show W5.heap[w.heap.size + 1]? = some (.cells #[.string a1.method, .string a1.key, .int .i64 a1.value, .string a1.text] 26 (0, 0) : Obj) from row_on y5 RX.out)
    have RC6 := hide (show W5.heap[g6]? = some (.cells #[.string k1, .bool o1, .bool b1, .slice A6 l1.length c6, .int .i64 n1] 31 (0, 0) : Obj) from row_on y5 RC6.out)
    have RR7 := hide (show W5.heap[g7]? = some (.cells #[.int .i64 c1, .int .i64 v1, .string t1, .int .i64 wa1, .int .i64 hh1] 33 (0, 0) : Obj) from row_on y5 RR7.out)
    have OC6 := hide (show OwnL W5 W2.heap.size 63 2 cellEn (.slice A6 l1.length c6) l1 from OwnL.below OC6.out y5 (Nat.le_refl _))
    have OX8 := hide (show OwnL W5 W3.heap.size 63 2 cellEn (.slice A8 a0.cells.length c8) a0.cells from OwnL.below OX8.out y5 (Nat.le_refl _))
    have BW := below_then BW y5
    have RX8 := hide (show W5.heap[W4.heap.size]? = some (.cells #[.string a0.kind, .bool a0.on, .bool a0.broken, .slice A8 a0.cells.length c8, .int .i64 a0.count] 31 (0, 0) : Obj) by rw [← hW5.out]; exact heap_new rfl)
    obtain ⟨_, _, _, _, _, _⟩ := five_cells RP.out
    obtain ⟨_, _, _, _, _⟩ := four_cells RX.out
    obtain ⟨_, _, _, _, _, _⟩ := five_cells RC6.out
    obtain ⟨_, _, _, _, _, _⟩ := five_cells RR7.out
    obtain ⟨_, _, _, _, _, _⟩ := five_cells RX8.out
    have RD8 : RdL W5 2 cellEn (.slice A8 a0.cells.length c8) a0.cells := OX8.out.rd (fun _ => rfl)
    have HRD8 := hide RD8
    clear RD8
    have hzX8 : W4.heap.size < W5.heap.size := (Array.getElem?_eq_some_iff.1 RX8.out).1
    have hzX : w.heap.size + 1 < W5.heap.size := (Array.getElem?_eq_some_iff.1 RX.out).1
    go_cut [9, 10] from 16 (fun s1 s2 wx => ∃ g9 g10 A9 c9, s1 = .pointer (some ⟨g9, 0, none⟩) ∧ s2 = .pointer (some ⟨g10, 0, none⟩) ∧ wx.heap[g9]? = some (.cells #[.string k1, .bool o1, .bool b1, .slice A9 l1.length c9, .int .i64 n1] 31 (0, 0) : Obj) ∧ wx.heap[g10]? = some (.cells #[.int .i64 c1, .int .i64 v1, .string t1, .int .i64 wa1, .int .i64 hh1] 33 (0, 0) : Obj) ∧ OwnL wx W5.heap.size 63 2 cellEn (.slice A9 l1.length c9) l1 ∧ Below W5.heap.size W5 wx)
    case first =>
      have h0inv : Below W5.heap.size W5 W5.drew := (Below.refl _ _).drew
      obtain ⟨G, hGdef⟩ : ∃ G : Nat → Value → World → Prop, G = (fun j v wx => match j with | 0 => (v = .agg #[.string a0.kind, .bool a0.on, .bool a0.broken, .slice A8 a0.cells.length c8, .int .i64 a0.count]) | 1 => (v = .agg #[.string a1.method, .string a1.key, .int .i64 a1.value, .string a1.text]) | 2 => (v = .agg #[.string a1.method, .string a1.key, .int .i64 a1.value, .string a1.text]) | 3 => (∃ A c, v = .tuple #[.agg #[.string k1, .bool o1, .bool b1, .slice A l1.length c, .int .i64 n1], .agg #[.int .i64 c1, .int .i64 v1, .string t1, .int .i64 wa1, .int .i64 hh1]] ∧ OwnL wx W5.heap.size 63 2 cellEn (.slice A l1.length c) l1) | 4 => (∃ A c, v = .tuple #[.agg #[.string k1, .bool o1, .bool b1, .slice A l1.length c, .int .i64 n1], .agg #[.int .i64 c1, .int .i64 v1, .string t1, .int .i64 wa1, .int .i64 hh1]] ∧ OwnL wx W5.heap.size 63 2 cellEn (.slice A l1.length c) l1) | 5 => (∃ A c, v = .agg #[.string k1, .bool o1, .bool b1, .slice A l1.length c, .int .i64 n1] ∧ OwnL wx W5.heap.size 63 2 cellEn (.slice A l1.length c) l1) | 6 => (v = .agg #[.int .i64 c1, .int .i64 v1, .string t1, .int .i64 wa1, .int .i64 hh1]) | 7 => (BlkG W5.heap.size 31 5 v wx) | 8 => (BlkG W5.heap.size 33 5 v wx) | 9 => (FinG W5.heap.size 31 (fun cs wx => ∃ A c, cs = #[.string k1, .bool o1, .bool b1, .slice A l1.length c, .int .i64 n1] ∧ OwnL wx W5.heap.size 63 2 cellEn (.slice A l1.length c) l1) v wx) | 10 => (FinG W5.heap.size 33 (fun cs wx => cs = #[.int .i64 c1, .int .i64 v1, .string t1, .int .i64 wa1, .int .i64 hh1]) v wx) | _ => True) := ⟨_, rfl⟩
      have G0 : ∀ v wx, G 0 v wx = (v = .agg #[.string a0.kind, .bool a0.on, .bool a0.broken, .slice A8 a0.cells.length c8, .int .i64 a0.count]) := fun v wx => (congrFun (congrFun (congrFun hGdef 0) v) wx).trans rfl
      have G1 : ∀ v wx, G 1 v wx = (v = .agg #[.string a1.method, .string a1.key, .int .i64 a1.value, .string a1.text]) := fun v wx => (congrFun (congrFun (congrFun hGdef 1) v) wx).trans rfl
      have G2 : ∀ v wx, G 2 v wx = (v = .agg #[.string a1.method, .string a1.key, .int .i64 a1.value, .string a1.text]) := fun v wx => (congrFun (congrFun (congrFun hGdef 2) v) wx).trans rfl
      have G3 : ∀ v wx, G 3 v wx = (∃ A c, v = .tuple #[.agg #[.string k1, .bool o1, .bool b1, .slice A l1.length c, .int .i64 n1], .agg #[.int .i64 c1, .int .i64 v1, .string t1, .int .i64 wa1, .int .i64 hh1]] ∧ OwnL wx W5.heap.size 63 2 cellEn (.slice A l1.length c) l1) := fun v wx => (congrFun (congrFun (congrFun hGdef 3) v) wx).trans rfl
      have G4 : ∀ v wx, G 4 v wx = (∃ A c, v = .tuple #[.agg #[.string k1, .bool o1, .bool b1, .slice A l1.length c, .int .i64 n1], .agg #[.int .i64 c1, .int .i64 v1, .string t1, .int .i64 wa1, .int .i64 hh1]] ∧ OwnL wx W5.heap.size 63 2 cellEn (.slice A l1.length c) l1) := fun v wx => (congrFun (congrFun (congrFun hGdef 4) v) wx).trans rfl
      have G5 : ∀ v wx, G 5 v wx = (∃ A c, v = .agg #[.string k1, .bool o1, .bool b1, .slice A l1.length c, .int .i64 n1] ∧ OwnL wx W5.heap.size 63 2 cellEn (.slice A l1.length c) l1) := fun v wx => (congrFun (congrFun (congrFun hGdef 5) v) wx).trans rfl
      have G6 : ∀ v wx, G 6 v wx = (v = .agg #[.int .i64 c1, .int .i64 v1, .string t1, .int .i64 wa1, .int .i64 hh1]) := fun v wx => (congrFun (congrFun (congrFun hGdef 6) v) wx).trans rfl
      have G7 : ∀ v wx, G 7 v wx = (BlkG W5.heap.size 31 5 v wx) := fun v wx => (congrFun (congrFun (congrFun hGdef 7) v) wx).trans rfl
      have G8 : ∀ v wx, G 8 v wx = (BlkG W5.heap.size 33 5 v wx) := fun v wx => (congrFun (congrFun (congrFun hGdef 8) v) wx).trans rfl
      have G9 : ∀ v wx, G 9 v wx = (FinG W5.heap.size 31 (fun cs wx => ∃ A c, cs = #[.string k1, .bool o1, .bool b1, .slice A l1.length c, .int .i64 n1] ∧ OwnL wx W5.heap.size 63 2 cellEn (.slice A l1.length c) l1) v wx) := fun v wx => (congrFun (congrFun (congrFun hGdef 9) v) wx).trans rfl
      have G10 : ∀ v wx, G 10 v wx = (FinG W5.heap.size 33 (fun cs wx => cs = #[.int .i64 c1, .int .i64 v1, .string t1, .int .i64 wa1, .int .i64 hh1]) v wx) := fun v wx => (congrFun (congrFun (congrFun hGdef 10) v) wx).trans rfl
      have Gn : ∀ j v wx, G (j + 11) v wx = True := fun j v wx => (congrFun (congrFun (congrFun hGdef _) v) wx).trans rfl
      clear hGdef
      have firm0 : ∀ j v, Firm [] (G j v) := by
        intro j v
        match j with
        | 0 => rw [show G 0 v = (fun wx => v = .agg #[.string a0.kind, .bool a0.on, .bool a0.broken, .slice A8 a0.cells.length c8, .int .i64 a0.count]) from funext (G0 v)]; exact firm_const _
        | 1 => rw [show G 1 v = (fun wx => v = .agg #[.string a1.method, .string a1.key, .int .i64 a1.value, .string a1.text]) from funext (G1 v)]; exact firm_const _
        | 2 => rw [show G 2 v = (fun wx => v = .agg #[.string a1.method, .string a1.key, .int .i64 a1.value, .string a1.text]) from funext (G2 v)]; exact firm_const _
        | 3 => rw [show G 3 v = (fun wx => ∃ A c, v = .tuple #[.agg #[.string k1, .bool o1, .bool b1, .slice A l1.length c, .int .i64 n1], .agg #[.int .i64 c1, .int .i64 v1, .string t1, .int .i64 wa1, .int .i64 hh1]] ∧ OwnL wx W5.heap.size 63 2 cellEn (.slice A l1.length c) l1) from funext (G3 v)]; exact firm_ex fun _ => firm_ex fun _ => firm_and (firm_const _) (firm_own (by decide))
        | 4 => rw [show G 4 v = (fun wx => ∃ A c, v = .tuple #[.agg #[.string k1, .bool o1, .bool b1, .slice A l1.length c, .int .i64 n1], .agg #[.int .i64 c1, .int .i64 v1, .string t1, .int .i64 wa1, .int .i64 hh1]] ∧ OwnL wx W5.heap.size 63 2 cellEn (.slice A l1.length c) l1) from funext (G4 v)]; exact firm_ex fun _ => firm_ex fun _ => firm_and (firm_const _) (firm_own (by decide))
        | 5 => rw [show G 5 v = (fun wx => ∃ A c, v = .agg #[.string k1, .bool o1, .bool b1, .slice A l1.length c, .int .i64 n1] ∧ OwnL wx W5.heap.size 63 2 cellEn (.slice A l1.length c) l1) from funext (G5 v)]; exact firm_ex fun _ => firm_ex fun _ => firm_and (firm_const _) (firm_own (by decide))
        | 6 => rw [show G 6 v = (fun wx => v = .agg #[.int .i64 c1, .int .i64 v1, .string t1, .int .i64 wa1, .int .i64 hh1]) from funext (G6 v)]; exact firm_const _
        | 7 => rw [show G 7 v = (fun wx => BlkG W5.heap.size 31 5 v wx) from funext (G7 v)]; exact firm_blk
        | 8 => rw [show G 8 v = (fun wx => BlkG W5.heap.size 33 5 v wx) from funext (G8 v)]; exact firm_blk
        | 9 => rw [show G 9 v = (fun wx => FinG W5.heap.size 31 (fun cs wx => ∃ A c, cs = #[.string k1, .bool o1, .bool b1, .slice A l1.length c, .int .i64 n1] ∧ OwnL wx W5.heap.size 63 2 cellEn (.slice A l1.length c) l1) v wx) from funext (G9 v)]; exact firm_fin (by decide) (fun _ => firm_ex fun _ => firm_ex fun _ => firm_and (firm_const _) (firm_own (by decide)))
        | 10 => rw [show G 10 v = (fun wx => FinG W5.heap.size 33 (fun cs wx => cs = #[.int .i64 c1, .int .i64 v1, .string t1, .int .i64 wa1, .int .i64 hh1]) v wx) from funext (G10 v)]; exact firm_fin (by decide) (fun _ => firm_const _)
        | j + 11 => rw [show G (j + 11) v = (fun wx => True) from funext (Gn j v)]; exact firm_const _
      have firm1 : ∀ j v, j ≠ 9 → Firm [31] (G j v) := by
        intro j v
        match j with
        | 0 => intro h9; rw [show G 0 v = (fun wx => v = .agg #[.string a0.kind, .bool a0.on, .bool a0.broken, .slice A8 a0.cells.length c8, .int .i64 a0.count]) from funext (G0 v)]; exact firm_const _
        | 1 => intro h9; rw [show G 1 v = (fun wx => v = .agg #[.string a1.method, .string a1.key, .int .i64 a1.value, .string a1.text]) from funext (G1 v)]; exact firm_const _
        | 2 => intro h9; rw [show G 2 v = (fun wx => v = .agg #[.string a1.method, .string a1.key, .int .i64 a1.value, .string a1.text]) from funext (G2 v)]; exact firm_const _
        | 3 => intro h9; rw [show G 3 v = (fun wx => ∃ A c, v = .tuple #[.agg #[.string k1, .bool o1, .bool b1, .slice A l1.length c, .int .i64 n1], .agg #[.int .i64 c1, .int .i64 v1, .string t1, .int .i64 wa1, .int .i64 hh1]] ∧ OwnL wx W5.heap.size 63 2 cellEn (.slice A l1.length c) l1) from funext (G3 v)]; exact firm_ex fun _ => firm_ex fun _ => firm_and (firm_const _) (firm_own (by decide))
        | 4 => intro h9; rw [show G 4 v = (fun wx => ∃ A c, v = .tuple #[.agg #[.string k1, .bool o1, .bool b1, .slice A l1.length c, .int .i64 n1], .agg #[.int .i64 c1, .int .i64 v1, .string t1, .int .i64 wa1, .int .i64 hh1]] ∧ OwnL wx W5.heap.size 63 2 cellEn (.slice A l1.length c) l1) from funext (G4 v)]; exact firm_ex fun _ => firm_ex fun _ => firm_and (firm_const _) (firm_own (by decide))
        | 5 => intro h9; rw [show G 5 v = (fun wx => ∃ A c, v = .agg #[.string k1, .bool o1, .bool b1, .slice A l1.length c, .int .i64 n1] ∧ OwnL wx W5.heap.size 63 2 cellEn (.slice A l1.length c) l1) from funext (G5 v)]; exact firm_ex fun _ => firm_ex fun _ => firm_and (firm_const _) (firm_own (by decide))
        | 6 => intro h9; rw [show G 6 v = (fun wx => v = .agg #[.int .i64 c1, .int .i64 v1, .string t1, .int .i64 wa1, .int .i64 hh1]) from funext (G6 v)]; exact firm_const _
        | 7 => intro h9; rw [show G 7 v = (fun wx => BlkG W5.heap.size 31 5 v wx) from funext (G7 v)]; exact firm_blk
        | 8 => intro h9; rw [show G 8 v = (fun wx => BlkG W5.heap.size 33 5 v wx) from funext (G8 v)]; exact firm_blk
        | 9 => intro h9; exact absurd rfl h9
        | 10 => intro h9; rw [show G 10 v = (fun wx => FinG W5.heap.size 33 (fun cs wx => cs = #[.int .i64 c1, .int .i64 v1, .string t1, .int .i64 wa1, .int .i64 hh1]) v wx) from funext (G10 v)]; exact firm_fin (by decide) (fun _ => firm_const _)
        | j + 11 => intro _; rw [show G (j + 11) v = (fun wx => True) from funext (Gn j v)]; exact firm_const _
      have firm2 : ∀ j v, j ≠ 10 → Firm [33] (G j v) := by
        intro j v
        match j with
        | 0 => intro h10; rw [show G 0 v = (fun wx => v = .agg #[.string a0.kind, .bool a0.on, .bool a0.broken, .slice A8 a0.cells.length c8, .int .i64 a0.count]) from funext (G0 v)]; exact firm_const _
        | 1 => intro h10; rw [show G 1 v = (fun wx => v = .agg #[.string a1.method, .string a1.key, .int .i64 a1.value, .string a1.text]) from funext (G1 v)]; exact firm_const _
        | 2 => intro h10; rw [show G 2 v = (fun wx => v = .agg #[.string a1.method, .string a1.key, .int .i64 a1.value, .string a1.text]) from funext (G2 v)]; exact firm_const _
        | 3 => intro h10; rw [show G 3 v = (fun wx => ∃ A c, v = .tuple #[.agg #[.string k1, .bool o1, .bool b1, .slice A l1.length c, .int .i64 n1], .agg #[.int .i64 c1, .int .i64 v1, .string t1, .int .i64 wa1, .int .i64 hh1]] ∧ OwnL wx W5.heap.size 63 2 cellEn (.slice A l1.length c) l1) from funext (G3 v)]; exact firm_ex fun _ => firm_ex fun _ => firm_and (firm_const _) (firm_own (by decide))
        | 4 => intro h10; rw [show G 4 v = (fun wx => ∃ A c, v = .tuple #[.agg #[.string k1, .bool o1, .bool b1, .slice A l1.length c, .int .i64 n1], .agg #[.int .i64 c1, .int .i64 v1, .string t1, .int .i64 wa1, .int .i64 hh1]] ∧ OwnL wx W5.heap.size 63 2 cellEn (.slice A l1.length c) l1) from funext (G4 v)]; exact firm_ex fun _ => firm_ex fun _ => firm_and (firm_const _) (firm_own (by decide))
        | 5 => intro h10; rw [show G 5 v = (fun wx => ∃ A c, v = .agg #[.string k1, .bool o1, .bool b1, .slice A l1.length c, .int .i64 n1] ∧ OwnL wx W5.heap.size 63 2 cellEn (.slice A l1.length c) l1) from funext (G5 v)]; exact firm_ex fun _ => firm_ex fun _ => firm_and (firm_const _) (firm_own (by decide))
        | 6 => intro h10; rw [show G 6 v = (fun wx => v = .agg #[.int .i64 c1, .int .i64 v1, .string t1, .int .i64 wa1, .int .i64 hh1]) from funext (G6 v)]; exact firm_const _
        | 7 => intro h10; rw [show G 7 v = (fun wx => BlkG W5.heap.size 31 5 v wx) from funext (G7 v)]; exact firm_blk
        | 8 => intro h10; rw [show G 8 v = (fun wx => BlkG W5.heap.size 33 5 v wx) from funext (G8 v)]; exact firm_blk
        | 9 => intro h10; rw [show G 9 v = (fun wx => FinG W5.heap.size 31 (fun cs wx => ∃ A c, cs = #[.string k1, .bool o1, .bool b1, .slice A l1.length c, .int .i64 n1] ∧ OwnL wx W5.heap.size 63 2 cellEn (.slice A l1.length c) l1) v wx) from funext (G9 v)]; exact firm_fin (by decide) (fun _ => firm_ex fun _ => firm_ex fun _ => firm_and (firm_const _) (firm_own (by decide)))
        | 10 => intro h10; exact absurd rfl h10
        | j + 11 => intro _; rw [show G (j + 11) v = (fun wx => True) from funext (Gn j v)]; exact firm_const _
      refine wp_region_abs W5.heap.size W5 [9, 10, 36, 37, 38, 39, 40, 41, 42] (fun j => match j with | 0 => 37 | 1 => 38 | 2 => 39 | 3 => 40 | 4 => 36 | 5 => 41 | 6 => 42 | 7 => 9 | 8 => 10 | 9 => 9 | 10 => 10 | _ => 0) (fun j => match j with | 0 => [] | 1 => [] | 2 => [1] | 3 => [0, 1, 2] | 4 => [0, 1, 2, 3] | 5 => [0, 1, 2, 3, 4] | 6 => [0, 1, 2, 3, 4] | 7 => [] | 8 => [] | 9 => [0, 1, 2, 3, 4, 5, 7] | 10 => [0, 1, 2, 3, 4, 6, 8] | _ => []) G (fun j => match j with | 0 => [] | 1 => [] | 2 => [] | 3 => [] | 4 => [] | 5 => [] | 6 => [] | 7 => [] | 8 => [] | 9 => [31] | 10 => [33] | _ => []) 112 (by kernel_rfl) (by kernel_rfl) rfl (by decide) h0inv ?firm0 ?stp0 ?fin0
      case firm0 =>
        intro i j hj _ v
        match i with
        | 0 => exact firm0 j v
        | 1 => exact firm0 j v
        | 2 => exact firm0 j v
        | 3 => exact firm0 j v
        | 4 => exact firm0 j v
        | 5 => exact firm0 j v
        | 6 => exact firm0 j v
        | 7 => exact firm0 j v
        | 8 => exact firm0 j v
        | 9 => exact firm1 j v hj
        | 10 => exact firm2 j v hj
        | i + 11 => exact firm0 j v
      case stp0 =>
        refine StepsFrom.cons ?op0_0 (StepsFrom.cons ?op0_1 (StepsFrom.cons ?op0_2 (StepsFrom.cons ?op0_3 (StepsFrom.cons ?op0_4 (StepsFrom.cons ?op0_5 (StepsFrom.cons ?op0_6 (StepsFrom.cons ?op0_7 (StepsFrom.cons ?op0_8 (StepsFrom.cons ?op0_9 (StepsFrom.cons ?op0_10 (StepsFrom.nil)))))))))))
        case op0_0 =>
          intro vs wy b hin hout hb hdep K hK
          have t8 : b.tmps[8]? = some (.pointer (some ⟨W4.heap.size, 0, none⟩)) := (hout 8 (by decide)).trans rfl
          clear hin hout hdep
          replace hK : ∀ v w', Below W5.heap.size W5 w' → Moved [] wy w' → (fun (v : Value) (wx : World) => v = .agg #[.string a0.kind, .bool a0.on, .bool a0.broken, .slice A8 a0.cells.length c8, .int .i64 a0.count]) v w' → K (b.put (some 37) v) w' := fun v w' q1 q2 q3 => hK v w' q1 q2 (Eq.mpr (G0 _ _) q3)
          refine ⟨wanted_plain rfl, ?_⟩
          have KW : ∀ k : Nat, wy.cell? ⟨W4.heap.size, k, none⟩ = _ := fun k => hb.cell hzX8
          go_simp
          exact hK _ _ hb (moved_refl _) rfl
        case op0_1 =>
          intro vs wy b hin hout hb hdep K hK
          have t3 : b.tmps[3]? = some (.pointer (some ⟨w.heap.size + 1, 0, none⟩)) := (hout 3 (by decide)).trans rfl
          clear hin hout hdep
          replace hK : ∀ v w', Below W5.heap.size W5 w' → Moved [] wy w' → (fun (v : Value) (wx : World) => v = .agg #[.string a1.method, .string a1.key, .int .i64 a1.value, .string a1.text]) v w' → K (b.put (some 38) v) w' := fun v w' q1 q2 q3 => hK v w' q1 q2 (Eq.mpr (G1 _ _) q3)
          refine ⟨wanted_plain rfl, ?_⟩
          have KW : ∀ k : Nat, wy.cell? ⟨w.heap.size + 1, k, none⟩ = _ := fun k => hb.cell hzX
          go_simp
          exact hK _ _ hb (moved_refl _) rfl
        case op0_2 =>
          intro vs wy b hin hout hb hdep K hK
          have h1 : (fun (v : Value) (wx : World) => v = .agg #[.string a1.method, .string a1.key, .int .i64 a1.value, .string a1.text]) (vs 38) wy := by
            have h := hdep 1 (by decide)
            rw [G1] at h
            exact h
          dsimp only at h1
          have t38 := hin 38 (by decide)
          clear hin hout hdep
          replace hK : ∀ v w', Below W5.heap.size W5 w' → Moved [] wy w' → (fun (v : Value) (wx : World) => v = .agg #[.string a1.method, .string a1.key, .int .i64 a1.value, .string a1.text]) v w' → K (b.put (some 39) v) w' := fun v w' q1 q2 q3 => hK v w' q1 q2 (Eq.mpr (G2 _ _) q3)
          refine ⟨wanted_plain rfl, ?_⟩
          go_simp
          refine (toCall_c a1 _).mono ?_
          rintro e wz ⟨rfl, bT⟩
          exact hK _ _ (below_then hb bT) (.inl bT) rfl
        case op0_3 =>
          intro vs wy b hin hout hb hdep K hK
          have h0 : (fun (v : Value) (wx : World) => v = .agg #[.string a0.kind, .bool a0.on, .bool a0.broken, .slice A8 a0.cells.length c8, .int .i64 a0.count]) (vs 37) wy := by
            have h := hdep 0 (by decide)
            rw [G0] at h
            exact h
          dsimp only at h0
          have h2 : (fun (v : Value) (wx : World) => v = .agg #[.string a1.method, .string a1.key, .int .i64 a1.value, .string a1.text]) (vs 39) wy := by
            have h := hdep 2 (by decide)
            rw [G2] at h
            exact h
          dsimp only at h2
          have t37 := hin 37 (by decide)
          have t39 := hin 39 (by decide)
          clear hin hout hdep
          replace hK : ∀ v w', Below W5.heap.size W5 w' → Moved [] wy w' → (fun (v : Value) (wx : World) => ∃ A c, v = .tuple #[.agg #[.string k1, .bool o1, .bool b1, .slice A l1.length c, .int .i64 n1], .agg #[.int .i64 c1, .int .i64 v1, .string t1, .int .i64 wa1, .int .i64 hh1]] ∧ OwnL wx W5.heap.size 63 2 cellEn (.slice A l1.length c) l1) v w' → K (b.put (some 40) v) w' := fun v w' q1 q2 q3 => hK v w' q1 q2 (Eq.mpr (G3 _ _) q3)
          refine ⟨wanted_plain rfl, ?_⟩
          have eC := h0
          have eX := h2
          go_simp
          refine (iCallCore_x a0 a1 _ _ k1 t1 o1 b1 l1 n1 c1 v1 wa1 hh1 (HM.out.below (below_then BW hb) hlM) (HT.out.below (below_then BW hb) hlT) (HE.out.below (below_then BW hb) hlE) WF0.out WF1.out ⟨RdL.below HRD8.out hb (Nat.le_refl _), Z0.out⟩ (by omega) htx HR).mono ?_
          rintro e wz ⟨A9, c9, rfl, oS, bS⟩
          exact hK _ _ (below_then hb bS) (.inl bS) ⟨A9, c9, rfl, OwnL.mono oS hb.size⟩
        case op0_4 =>
          intro vs wy b hin hout hb hdep K hK
          have h3 : (fun (v : Value) (wx : World) => ∃ A c, v = .tuple #[.agg #[.string k1, .bool o1, .bool b1, .slice A l1.length c, .int .i64 n1], .agg #[.int .i64 c1, .int .i64 v1, .string t1, .int .i64 wa1, .int .i64 hh1]] ∧ OwnL wx W5.heap.size 63 2 cellEn (.slice A l1.length c) l1) (vs 40) wy := by
            have h := hdep 3 (by decide)
            rw [G3] at h
            exact h
          dsimp only at h3
          have t40 := hin 40 (by decide)
          clear hin hout hdep
          replace hK : ∀ v w', Below W5.heap.size W5 w' → Moved [] wy w' → (fun (v : Value) (wx : World) => ∃ A c, v = .tuple #[.agg #[.string k1, .bool o1, .bool b1, .slice A l1.length c, .int .i64 n1], .agg #[.int .i64 c1, .int .i64 v1, .string t1, .int .i64 wa1, .int .i64 hh1]] ∧ OwnL wx W5.heap.size 63 2 cellEn (.slice A l1.length c) l1) v w' → K (b.put (some 36) v) w' := fun v w' q1 q2 q3 => hK v w' q1 q2 (Eq.mpr (G4 _ _) q3)
          refine ⟨wanted_plain rfl, ?_⟩
          obtain ⟨A9, c9, e9, o9⟩ := h3
          go_simp
          exact hK _ _ hb (moved_refl _) ⟨A9, c9, rfl, o9⟩
        case op0_5 =>
          intro vs wy b hin hout hb hdep K hK
          have h4 : (fun (v : Value) (wx : World) => ∃ A c, v = .tuple #[.agg #[.string k1, .bool o1, .bool b1, .slice A l1.length c, .int .i64 n1], .agg #[.int .i64 c1, .int .i64 v1, .string t1, .int .i64 wa1, .int .i64 hh1]] ∧ OwnL wx W5.heap.size 63 2 cellEn (.slice A l1.length c) l1) (vs 36) wy := by
            have h := hdep 4 (by decide)
            rw [G4] at h
            exact h
          dsimp only at h4
          have t36 := hin 36 (by decide)
          clear hin hout hdep
          replace hK : ∀ v w', Below W5.heap.size W5 w' → Moved [] wy w' → (fun (v : Value) (wx : World) => ∃ A c, v = .agg #[.string k1, .bool o1, .bool b1, .slice A l1.length c, .int .i64 n1] ∧ OwnL wx W5.heap.size 63 2 cellEn (.slice A l1.length c) l1) v w' → K (b.put (some 41) v) w' := fun v w' q1 q2 q3 => hK v w' q1 q2 (Eq.mpr (G5 _ _) q3)
          refine ⟨wanted_plain rfl, ?_⟩
          obtain ⟨A9, c9, e9, o9⟩ := h4
          go_simp
          exact hK _ _ hb (moved_refl _) ⟨A9, c9, rfl, o9⟩
        case op0_6 =>
          intro vs wy b hin hout hb hdep K hK
          have h4 : (fun (v : Value) (wx : World) => ∃ A c, v = .tuple #[.agg #[.string k1, .bool o1, .bool b1, .slice A l1.length c, .int .i64 n1], .agg #[.int .i64 c1, .int .i64 v1, .string t1, .int .i64 wa1, .int .i64 hh1]] ∧ OwnL wx W5.heap.size 63 2 cellEn (.slice A l1.length c) l1) (vs 36) wy := by
            have h := hdep 4 (by decide)
            rw [G4] at h
            exact h
          dsimp only at h4
          have t36 := hin 36 (by decide)
          clear hin hout hdep
          replace hK : ∀ v w', Below W5.heap.size W5 w' → Moved [] wy w' → (fun (v : Value) (wx : World) => v = .agg #[.int .i64 c1, .int .i64 v1, .string t1, .int .i64 wa1, .int .i64 hh1]) v w' → K (b.put (some 42) v) w' := fun v w' q1 q2 q3 => hK v w' q1 q2 (Eq.mpr (G6 _ _) q3)
          refine ⟨wanted_plain rfl, ?_⟩
          obtain ⟨A9, c9, e9, o9⟩ := h4
          go_simp
          exact hK _ _ hb (moved_refl _) rfl
        case op0_7 =>
          intro vs wy b hin hout hb hdep K hK
          clear hin hout hdep
          replace hK : ∀ v w', Below W5.heap.size W5 w' → Moved [] wy w' → (fun (v : Value) (wx : World) => BlkG W5.heap.size 31 5 v wx) v w' → K (b.put (some 9) v) w' := fun v w' q1 q2 q3 => hK v w' q1 q2 (Eq.mpr (G7 _ _) q3)
          refine ⟨wanted_plain rfl, ?_⟩
          go_simp
          exact hK _ _ (below_alloc hb _) (.inl (below_alloc (Below.refl _ _) _)) ⟨_, _, rfl, hb.size, heap_new rfl, rfl⟩
        case op0_8 =>
          intro vs wy b hin hout hb hdep K hK
          clear hin hout hdep
          replace hK : ∀ v w', Below W5.heap.size W5 w' → Moved [] wy w' → (fun (v : Value) (wx : World) => BlkG W5.heap.size 33 5 v wx) v w' → K (b.put (some 10) v) w' := fun v w' q1 q2 q3 => hK v w' q1 q2 (Eq.mpr (G8 _ _) q3)
          refine ⟨wanted_plain rfl, ?_⟩
          go_simp
          exact hK _ _ (below_alloc hb _) (.inl (below_alloc (Below.refl _ _) _)) ⟨_, _, rfl, hb.size, heap_new rfl, rfl⟩
        case op0_9 =>
          intro vs wy b hin hout hb hdep K hK
          have h7 : (fun (v : Value) (wx : World) => BlkG W5.heap.size 31 5 v wx) (vs 9) wy := by
            have h := hdep 7 (by decide)
            rw [G7] at h
            exact h
          dsimp only at h7
          have h5 : (fun (v : Value) (wx : World) => ∃ A c, v = .agg #[.string k1, .bool o1, .bool b1, .slice A l1.length c, .int .i64 n1] ∧ OwnL wx W5.heap.size 63 2 cellEn (.slice A l1.length c) l1) (vs 41) wy := by
            have h := hdep 5 (by decide)
            rw [G5] at h
            exact h
          dsimp only at h5
          have t9 := hin 9 (by decide)
          have t41 := hin 41 (by decide)
          clear hin hout hdep
          replace hK : ∀ v w', Below W5.heap.size W5 w' → Moved [31] wy w' → (fun (v : Value) (wx : World) => FinG W5.heap.size 31 (fun cs wx => ∃ A c, cs = #[.string k1, .bool o1, .bool b1, .slice A l1.length c, .int .i64 n1] ∧ OwnL wx W5.heap.size 63 2 cellEn (.slice A l1.length c) l1) v wx) (vs 9) w' → K (b.put (none) v) w' := fun v w' q1 q2 q3 => hK v w' q1 q2 (Eq.mpr (G9 _ _) q3)
          refine ⟨wanted_plain rfl, ?_⟩
          obtain ⟨g9, cs9, e8, hB9, hg9, hn9⟩ := h7
          obtain ⟨x0, x1, x2, x3, x4, rfl⟩ := five_of hn9
          obtain ⟨_, _, _, _, _, _⟩ := five_cells hg9
          obtain ⟨A9, c9, e9, o9⟩ := h5
          go_simp
          have hst := store5 (.string k1) (.bool o1) (.bool b1) (.slice A9 l1.length c9) (.int .i64 n1) hg9 hn9
          refine hK undef _ ?_ (.inr ⟨g9, 31, by simp, hst.2⟩) ⟨g9, _, e8, hB9, hst.1, A9, c9, rfl, firm_own (TS := [31]) (by decide) _ _ (.inr ⟨g9, 31, by simp, hst.2⟩) o9⟩
          obtain ⟨_, _, _, _, _, hgr⟩ := hst.2
          exact Below.grown hb hgr hb.size (fun k hk => by obtain rfl := Option.some.inj hk; exact hB9)
        case op0_10 =>
          intro vs wy b hin hout hb hdep K hK
          have h8 : (fun (v : Value) (wx : World) => BlkG W5.heap.size 33 5 v wx) (vs 10) wy := by
            have h := hdep 8 (by decide)
            rw [G8] at h
            exact h
          dsimp only at h8
          have h6 : (fun (v : Value) (wx : World) => v = .agg #[.int .i64 c1, .int .i64 v1, .string t1, .int .i64 wa1, .int .i64 hh1]) (vs 42) wy := by
            have h := hdep 6 (by decide)
            rw [G6] at h
            exact h
          dsimp only at h6
          have t10 := hin 10 (by decide)
          have t42 := hin 42 (by decide)
          clear hin hout hdep
          replace hK : ∀ v w', Below W5.heap.size W5 w' → Moved [33] wy w' → (fun (v : Value) (wx : World) => FinG W5.heap.size 33 (fun cs wx => cs = #[.int .i64 c1, .int .i64 v1, .string t1, .int .i64 wa1, .int .i64 hh1]) v wx) (vs 10) w' → K (b.put (none) v) w' := fun v w' q1 q2 q3 => hK v w' q1 q2 (Eq.mpr (G10 _ _) q3)
          refine ⟨wanted_plain rfl, ?_⟩
          obtain ⟨g9, cs9, e8, hB9, hg9, hn9⟩ := h8
          obtain ⟨x0, x1, x2, x3, x4, rfl⟩ := five_of hn9
          obtain ⟨_, _, _, _, _, _⟩ := five_cells hg9
          have e9 := h6
          go_simp
          have hst := store5 (.int .i64 c1) (.int .i64 v1) (.string t1) (.int .i64 wa1) (.int .i64 hh1) hg9 hn9
          refine hK undef _ ?_ (.inr ⟨g9, 33, by simp, hst.2⟩) ⟨g9, _, e8, hB9, hst.1, rfl⟩
          obtain ⟨_, _, _, _, _, hgr⟩ := hst.2
          exact Below.grown hb hgr hb.size (fun k hk => by obtain rfl := Option.some.inj hk; exact hB9)
      case fin0 =>
        intro vs wz b hin hbeq hb hall
        have f9 : (fun (v : Value) (wx : World) => FinG W5.heap.size 31 (fun cs wx => ∃ A c, cs = #[.string k1, .bool o1, .bool b1, .slice A l1.length c, .int .i64 n1] ∧ OwnL wx W5.heap.size 63 2 cellEn (.slice A l1.length c) l1) v wx) (vs 9) wz := by
          have h := hall 9 (by decide)
          rw [G9] at h
          exact h
        dsimp only at f9
        have f10 : (fun (v : Value) (wx : World) => FinG W5.heap.size 33 (fun cs wx => cs = #[.int .i64 c1, .int .i64 v1, .string t1, .int .i64 wa1, .int .i64 hh1]) v wx) (vs 10) wz := by
          have h := hall 10 (by decide)
          rw [G10] at h
          exact h
        dsimp only at f10
        clear hall hin
        subst hbeq
        simp only [actAt, slots, List.foldl_cons, List.foldl_nil, List.setIfInBounds_toArray, List.set_cons_zero, List.set_cons_succ]
        obtain ⟨g1, cs1, e1, _, hg1, A1, c1_, rfl, hO1⟩ := f9
        obtain ⟨g2, cs2, e2, _, hg2, rfl⟩ := f10
        go_wp2_with fail
        go_meet
        exact ⟨g1, g2, A1, c1_, (by first | exact e1 | rfl), (by first | exact e2 | rfl), hg1, hg2, hO1, hb⟩
    case rest =>
    obtain ⟨g9, g10, A9, c9, rfl, rfl, hr1, hr2, ho1, hb1⟩ := hcut
    have RC9 := hide hr1
    have RR10 := hide hr2
    have OC9 := hide ho1
    have BXC9 := hide hb1
    clear hr1 hr2 ho1 hb1
    have SEP69 := hide (own_sep OC6.out OC9.out (show W5.heap.size ≤ W5.heap.size from Nat.le_refl _))
    have SEP89 := hide (own_sep OX8.out OC9.out (show W5.heap.size ≤ W5.heap.size from Nat.le_refl _))
    obtain ⟨W6, hxW6⟩ : ∃ W, wc = W := ⟨_, rfl⟩
    rw [hxW6] at RC9 RR10 OC9 BXC9
    rw [hxW6]
    clear hxW6
    have hsW6 := Below.size BXC9.out
    have RP := hide (show W6.heap[w.heap.size]? = some (.cells #[.string a0.kind, .bool a0.on, .bool a0.broken, s0, .int .i64 a0.count] 24 (0, 0) : Obj) from row_on BXC9.out RP.out)
    have RX := hide (show W6.heap[w.heap.size + 1]? = some (.cells #[.string a1.method, .string a1.key, .int .i64 a1.value, .string a1.text] 26 (0, 0) : Obj) from row_on BXC9.out RX.out)
    have RC6 := hide (show W6.heap[g6]? = some (.cells #[.string k1, .bool o1, .bool b1, .slice A6 l1.length c6, .int .i64 n1] 31 (0, 0) : Obj) from row_on BXC9.out RC6.out)
    have RR7 := hide (show W6.heap[g7]? = some (.cells #[.int .i64 c1, .int .i64 v1, .string t1, .int .i64 wa1, .int .i64 hh1] 33 (0, 0) : Obj) from row_on BXC9.out RR7.out)
    have RX8 := hide (show W6.heap[W4.heap.size]? = some (.cells #[.string a0.kind, .bool a0.on, .bool a0.broken, .slice A8 a0.cells.length c8, .int .i64 a0.count] 31 (0, 0) : Obj) from row_on BXC9.out RX8.out)
    have OC6 := hide (show OwnL W6 W2.heap.size 63 2 cellEn (.slice A6 l1.length c6) l1 from OwnL.below OC6.out BXC9.out (Nat.le_refl _))
    have OX8 := hide (show OwnL W6 W3.heap.size 63 2 cellEn (.slice A8 a0.cells.length c8) a0.cells from OwnL.below OX8.out BXC9.out (Nat.le_refl _))
    have BW := below_then BW BXC9.out
    obtain ⟨_, _, _, _, _, _⟩ := five_cells RP.out
    obtain ⟨_, _, _, _, _⟩ := four_cells RX.out
    obtain ⟨_, _, _, _, _, _⟩ := five_cells RC6.out
    obtain ⟨_, _, _, _, _, _⟩ := five_cells RR7.out
    obtain ⟨_, _, _, _, _, _⟩ := five_cells RX8.out
    obtain ⟨_, _, _, _, _, _⟩ := five_cells RC9.out
    obtain ⟨_, _, _, _, _, _⟩ := five_cells RR10.out
    go_wp2_with fail
    refine (eqCore_c ⟨k1, o1, b1, l1, n1⟩ ⟨k1, o1, b1, l1, n1⟩ _ _ _ rfl (OC9.out.rd (fun _ => rfl)) (OC6.out.rd (fun _ => rfl))).mono ?_; rintro e W7 ⟨rfl, b⟩
    have RP := hide (show W7.heap[w.heap.size]? = some (.cells #[.string a0.kind, .bool a0.on, .bool a0.broken, s0, .int .i64 a0.count] 24 (0, 0) : Obj) from row_on b RP.out)
    have RX := hide (show W7.heap[w.heap.size + 1]? = some (.cells #[.string a1.method, .string a1.key, .int .i64 a1.value, .string a1.text] 26 (0, 0) : Obj) from row_on b RX.out)
    have RC6 := hide (show W7.heap[g6]? = some (.cells #[.string k1, .bool o1, .bool b1, .slice A6 l1.length c6, .int .i64 n1] 31 (0, 0) : Obj) from row_on b RC6.out)
    have RR7 := hide (show W7.heap[g7]? = some (.cells #[.int .i64 c1, .int .i64 v1, .string t1, .int .i64 wa1, .int .i64 hh1] 33 (0, 0) : Obj) from row_on b RR7.out)
    have RX8 := hide (show W7.heap[W4.heap.size]? = some (.cells #[.string a0.kind, .bool a0.on, .bool a0.broken, .slice A8 a0.cells.length c8, .int .i64 a0.count] 31 (0, 0) : Obj) from row_on b RX8.out)
    have RC9 := hide (show W7.heap[g9]? = some (.cells #[.string k1, .bool o1, .bool b1, .slice A9 l1.length c9, .int .i64 n1] 31 (0, 0) : Obj) from row_on b RC9.out)
    have RR10 := hide (show W7.heap[g10]? = some (.cells #[.int .i64 c1, .int .i64 v1, .string t1, .int .i64 wa1, .int .i64 hh1] 33 (0, 0) : Obj) from row_on b RR10.out)
    have OC6 := hide (show OwnL W7 W2.heap.size 63 2 cellEn (.slice A6 l1.length c6) l1 from OwnL.below OC6.out b (Nat.le_refl _))
    have OX8 := hide (show OwnL W7 W3.heap.size 63 2 cellEn (.slice A8 a0.cells.length c8) a0.cells from OwnL.below OX8.out b (Nat.le_refl _))
    have OC9 := hide (show OwnL W7 W5.heap.size 63 2 cellEn (.slice A9 l1.length c9) l1 from OwnL.below OC9.out b (Nat.le_refl _))
    have BW := below_then BW b
    obtain ⟨_, _, _, _, _, _⟩ := five_cells RP.out
    obtain ⟨_, _, _, _, _⟩ := four_cells RX.out
    obtain ⟨_, _, _, _, _, _⟩ := five_cells RC6.out
    obtain ⟨_, _, _, _, _, _⟩ := five_cells RR7.out
    obtain ⟨_, _, _, _, _, _⟩ := five_cells RX8.out
    obtain ⟨_, _, _, _, _, _⟩ := five_cells RC9.out
    obtain ⟨_, _, _, _, _, _⟩ := five_cells RR10.out
    go_wp2_with fail
    refine (eqReply_c ⟨c1, v1, t1, wa1, hh1⟩ _).mono ?_; rintro e W8 ⟨rfl, b⟩
    have RP := hide (show W8.heap[w.heap.size]? = some (.cells #[.string a0.kind, .bool a0.on, .bool a0.broken, s0, .int .i64 a0.count] 24 (0, 0) : Obj) from row_on b RP.out)
    have RX := hide (show W8.heap[w.heap.size + 1]? = some (.cells #[.string a1.method, .string a1.key, .int .i64 a1.value, .string a1.text] 26 (0, 0) : Obj) from row_on b RX.out)
    have RC6 := hide (show W8.heap[g6]? = some (.cells #[.string k1, .bool o1, .bool b1, .slice A6 l1.length c6, .int .i64 n1] 31 (0, 0) : Obj) from row_on b RC6.out)
    have RR7 := hide (show W8.heap[g7]? = some (.cells #[.int .i64 c1, .int .i64 v1, .string t1, .int .i64 wa1, .int .i64 hh1] 33 (0, 0) : Obj) from row_on b RR7.out)
    have RX8 := hide (show W8.heap[W4.heap.size]? = some (.cells #[.string a0.kind, .bool a0.on, .bool a0.broken, .slice A8 a0.cells.length c8, .int .i64 a0.count] 31 (0, 0) : Obj) from row_on b RX8.out)
    have RC9 := hide (show W8.heap[g9]? = some (.cells #[.string k1, .bool o1, .bool b1, .slice A9 l1.length c9, .int .i64 n1] 31 (0, 0) : Obj) from row_on b RC9.out)
    have RR10 := hide (show W8.heap[g10]? = some (.cells #[.int .i64 c1, .int .i64 v1, .string t1, .int .i64 wa1, .int .i64 hh1] 33 (0, 0) : Obj) from row_on b RR10.out)
    have OC6 := hide (show OwnL W8 W2.heap.size 63 2 cellEn (.slice A6 l1.length c6) l1 from OwnL.below OC6.out b (Nat.le_refl _))
    have OX8 := hide (show OwnL W8 W3.heap.size 63 2 cellEn (.slice A8 a0.cells.length c8) a0.cells from OwnL.below OX8.out b (Nat.le_refl _))
    have OC9 := hide (show OwnL W8 W5.heap.size 63 2 cellEn (.slice A9 l1.length c9) l1 from OwnL.below OC9.out b (Nat.le_refl _))
    have BW := below_then BW b
    obtain ⟨_, _, _, _, _, _⟩ := five_cells RP.out
    obtain ⟨_, _, _, _, _⟩ := four_cells RX.out
    obtain ⟨_, _, _, _, _, _⟩ := five_cells RC6.out
    obtain ⟨_, _, _, _, _, _⟩ := five_cells RR7.out
    obtain ⟨_, _, _, _, _, _⟩ := five_cells RX8.out
    obtain ⟨_, _, _, _, _, _⟩ := five_cells RC9.out
    obtain ⟨_, _, _, _, _, _⟩ := five_cells RR10.out
    go_wp2_with fail
    have HX8r := hide (show RdL W8 2 cellEn (.slice A8 a0.cells.length c8) a0.cells from OX8.out.rd (fun _ => rfl))
    have hzX8 : W4.heap.size < W8.heap.size := (Array.getElem?_eq_some_iff.1 RX8.out).1
    have hzP : w.heap.size < W8.heap.size := (Array.getElem?_eq_some_iff.1 RP.out).1
    have K0 : Below W8.heap.size W8 W8 := Below.refl _ _
    have KD : ∀ w' : World, Below W8.heap.size W8 w' → Below W8.heap.size W8 w'.drew := fun _ h => h.drew
    have KA : ∀ (w' : World) (o : Obj), Below W8.heap.size W8 w' → Below W8.heap.size W8 (w'.alloc o) := fun _ o h => below_alloc h o
    go_region_held3 (fun w' => Below W8.heap.size W8 w' ∧ w'.cell? ⟨W4.heap.size, 0, none⟩ = some (.string a0.kind) ∧ w'.cell? ⟨W4.heap.size, 1, none⟩ = some (.bool a0.on) ∧ w'.cell? ⟨W4.heap.size, 2, none⟩ = some (.bool a0.broken) ∧ w'.cell? ⟨W4.heap.size, 3, none⟩ = some (.slice A8 a0.cells.length c8) ∧ w'.cell? ⟨W4.heap.size, 4, none⟩ = some (.int .i64 a0.count) ∧ w'.cell? ⟨w.heap.size, 0, none⟩ = some (.string a0.kind) ∧ w'.cell? ⟨w.heap.size, 1, none⟩ = some (.bool a0.on) ∧ w'.cell? ⟨w.heap.size, 2, none⟩ = some (.bool a0.broken) ∧ w'.cell? ⟨w.heap.size, 3, none⟩ = some (s0) ∧ w'.cell? ⟨w.heap.size, 4, none⟩ = some (.int .i64 a0.count)) (go_keep)
      (first
           | (go_at_call 14;
               refine (toCore_c a0 s0 _ (RdL.below (RdL.below r0 BW (Nat.le_refl _)) (And.left (by assumption)) (Nat.le_refl _)) hln).mono ?_;
               rintro e WT ⟨vT, rfl, oT, bT⟩;
               have RT : RdL WT 2 cellEn vT a0.cells := oT.rd (fun _ => rfl);
               have KWWT : Below W8.heap.size W8 WT := below_then (And.left (by assumption)) bT;
               have KWT0 : ∀ k : Nat, WT.cell? ⟨W4.heap.size, k, none⟩ = _ := fun k => bT.cell (Nat.lt_of_lt_of_le hzX8 (Below.size (And.left (by assumption))));
               have KWT1 : ∀ k : Nat, WT.cell? ⟨w.heap.size, k, none⟩ = _ := fun k => bT.cell (Nat.lt_of_lt_of_le hzP (Below.size (And.left (by assumption)))))
           | (go_at_call 17;
               refine (eqCore_c a0 a0 _ _ _ rfl (RdL.below HX8r.out (And.left (by assumption)) (Nat.le_refl _)) (RdL.below RT (by first | exact Below.refl _ _ | exact (Below.refl _ _).drew | exact (Below.refl _ _).drew.drew) (Nat.le_refl _))).mono ?_;
               rintro e WE ⟨rfl, bE⟩;
               have KWWE : Below W8.heap.size W8 WE := below_then (And.left (by assumption)) bE;
               have KWE0 : ∀ k : Nat, WE.cell? ⟨W4.heap.size, k, none⟩ = _ := fun k => bE.cell (Nat.lt_of_lt_of_le hzX8 (Below.size (And.left (by assumption))));
               have KWE1 : ∀ k : Nat, WE.cell? ⟨w.heap.size, k, none⟩ = _ := fun k => bE.cell (Nat.lt_of_lt_of_le hzP (Below.size (And.left (by assumption))))))
    clear K0 KD KA
    have RP := hide (show WE.heap[w.heap.size]? = some (.cells #[.string a0.kind, .bool a0.on, .bool a0.broken, s0, .int .i64 a0.count] 24 (0, 0) : Obj) from row_on KWWE RP.out)
    have RX := hide (show WE.heap[w.heap.size + 1]? = some (.cells #[.string a1.method, .string a1.key, .int .i64 a1.value, .string a1.text] 26 (0, 0) : Obj) from row_on KWWE RX.out)
    have RC6 := hide (show WE.heap[g6]? = some (.cells #[.string k1, .bool o1, .bool b1, .slice A6 l1.length c6, .int .i64 n1] 31 (0, 0) : Obj) from row_on KWWE RC6.out)
    have RR7 := hide (show WE.heap[g7]? = some (.cells #[.int .i64 c1, .int .i64 v1, .string t1, .int .i64 wa1, .int .i64 hh1] 33 (0, 0) : Obj) from row_on KWWE RR7.out)
    have RX8 := hide (show WE.heap[W4.heap.size]? = some (.cells #[.string a0.kind, .bool a0.on, .bool a0.broken, .slice A8 a0.cells.length c8, .int .i64 a0.count] 31 (0, 0) : Obj) from row_on KWWE RX8.out)
    have RC9 := hide (show WE.heap[g9]? = some (.cells #[.string k1, .bool o1, .bool b1, .slice A9 l1.length c9, .int .i64 n1] 31 (0, 0) : Obj) from row_on KWWE RC9.out)
    have RR10 := hide (show WE.heap[g10]? = some (.cells #[.int .i64 c1, .int .i64 v1, .string t1, .int .i64 wa1, .int .i64 hh1] 33 (0, 0) : Obj) from row_on KWWE RR10.out)
    have OC6 := hide (show OwnL WE W2.heap.size 63 2 cellEn (.slice A6 l1.length c6) l1 from OwnL.below OC6.out KWWE (Nat.le_refl _))
    have OX8 := hide (show OwnL WE W3.heap.size 63 2 cellEn (.slice A8 a0.cells.length c8) a0.cells from OwnL.below OX8.out KWWE (Nat.le_refl _))
    have OC9 := hide (show OwnL WE W5.heap.size 63 2 cellEn (.slice A9 l1.length c9) l1 from OwnL.below OC9.out KWWE (Nat.le_refl _))
    have BW := below_then BW KWWE
    obtain ⟨_, _, _, _, _, _⟩ := five_cells RP.out
    obtain ⟨_, _, _, _, _⟩ := four_cells RX.out
    obtain ⟨_, _, _, _, _, _⟩ := five_cells RC6.out
    obtain ⟨_, _, _, _, _, _⟩ := five_cells RR7.out
    obtain ⟨_, _, _, _, _, _⟩ := five_cells RX8.out
    obtain ⟨_, _, _, _, _, _⟩ := five_cells RC9.out
    obtain ⟨_, _, _, _, _, _⟩ := five_cells RR10.out
    go_wp2_with fail
    refine (markCore_c a0 _ _ 1 _ _ OX8.out (by omega) (by omega) (by omega)).mono ?_; rintro e WM ⟨rfl, om, gm⟩
    have RP := hide (show WM.heap[w.heap.size]? = some (.cells #[.string a0.kind, .bool a0.on, .bool a0.broken, s0, .int .i64 a0.count] 24 (0, 0) : Obj) from row_grown gm RP.out (own_far OX8.out RP.out (by decide)))
    have RX := hide (show WM.heap[w.heap.size + 1]? = some (.cells #[.string a1.method, .string a1.key, .int .i64 a1.value, .string a1.text] 26 (0, 0) : Obj) from row_grown gm RX.out (own_far OX8.out RX.out (by decide)))
    have RC6 := hide (show WM.heap[g6]? = some (.cells #[.string k1, .bool o1, .bool b1, .slice A6 l1.length c6, .int .i64 n1] 31 (0, 0) : Obj) from row_grown gm RC6.out (own_far OX8.out RC6.out (by decide)))
    have RR7 := hide (show WM.heap[g7]? = some (.cells #[.int .i64 c1, .int .i64 v1, .string t1, .int .i64 wa1, .int .i64 hh1] 33 (0, 0) : Obj) from row_grown gm RR7.out (own_far OX8.out RR7.out (by decide)))
    have RX8 := hide (show WM.heap[W4.heap.size]? = some (.cells #[.string a0.kind, .bool a0.on, .bool a0.broken, .slice A8 a0.cells.length c8, .int .i64 a0.count] 31 (0, 0) : Obj) from row_grown gm RX8.out (own_far OX8.out RX8.out (by decide)))
    have RC9 := hide (show WM.heap[g9]? = some (.cells #[.string k1, .bool o1, .bool b1, .slice A9 l1.length c9, .int .i64 n1] 31 (0, 0) : Obj) from row_grown gm RC9.out (own_far OX8.out RC9.out (by decide)))
    have RR10 := hide (show WM.heap[g10]? = some (.cells #[.int .i64 c1, .int .i64 v1, .string t1, .int .i64 wa1, .int .i64 hh1] 33 (0, 0) : Obj) from row_grown gm RR10.out (own_far OX8.out RR10.out (by decide)))
    have OC6 := hide (show OwnL WM W2.heap.size 63 2 cellEn (.slice A6 l1.length c6) l1 from OwnL.kept OC6.out gm SEP68.out.1)
    have OC9 := hide (show OwnL WM W5.heap.size 63 2 cellEn (.slice A9 l1.length c9) l1 from OwnL.kept OC9.out gm SEP89.out.2)
    have BW := Below.grown BW gm BW.size (fun j hj => Nat.le_trans (by omega) (OwnL.lt OX8.out hj).1)
    clear OX8
    have OX8 := hide (show OwnL WM W3.heap.size 63 2 cellEn (.slice A8 a0.cells.length c8) (Pu.gen (Pu.gC 1) a0.cells.length) from om)
    clear om gm
    have hm1 : ¬ (1 + 2 * (a0.cells.length : Int)) < 0 := by omega
    obtain ⟨_, _, _, _, _, _⟩ := five_cells RP.out
    obtain ⟨_, _, _, _, _⟩ := four_cells RX.out
    obtain ⟨_, _, _, _, _, _⟩ := five_cells RC6.out
    obtain ⟨_, _, _, _, _, _⟩ := five_cells RR7.out
    obtain ⟨_, _, _, _, _, _⟩ := five_cells RX8.out
    obtain ⟨_, _, _, _, _, _⟩ := five_cells RC9.out
    obtain ⟨_, _, _, _, _, _⟩ := five_cells RR10.out
    go_wp2_with fail
    refine (eqCore_c ⟨k1, o1, b1, l1, n1⟩ ⟨k1, o1, b1, l1, n1⟩ _ _ _ rfl (OC9.out.rd (fun _ => rfl)) (OC6.out.rd (fun _ => rfl))).mono ?_; rintro e W9 ⟨rfl, b⟩
    have RP := hide (show W9.heap[w.heap.size]? = some (.cells #[.string a0.kind, .bool a0.on, .bool a0.broken, s0, .int .i64 a0.count] 24 (0, 0) : Obj) from row_on b RP.out)
    have RX := hide (show W9.heap[w.heap.size + 1]? = some (.cells #[.string a1.method, .string a1.key, .int .i64 a1.value, .string a1.text] 26 (0, 0) : Obj) from row_on b RX.out)
    have RC6 := hide (show W9.heap[g6]? = some (.cells #[.string k1, .bool o1, .bool b1, .slice A6 l1.length c6, .int .i64 n1] 31 (0, 0) : Obj) from row_on b RC6.out)
    have RR7 := hide (show W9.heap[g7]? = some (.cells #[.int .i64 c1, .int .i64 v1, .string t1, .int .i64 wa1, .int .i64 hh1] 33 (0, 0) : Obj) from row_on b RR7.out)
    have RX8 := hide (show W9.heap[W4.heap.size]? = some (.cells #[.string a0.kind, .bool a0.on, .bool a0.broken, .slice A8 a0.cells.length c8, .int .i64 a0.count] 31 (0, 0) : Obj) from row_on b RX8.out)
    have RC9 := hide (show W9.heap[g9]? = some (.cells #[.string k1, .bool o1, .bool b1, .slice A9 l1.length c9, .int .i64 n1] 31 (0, 0) : Obj) from row_on b RC9.out)
    have RR10 := hide (show W9.heap[g10]? = some (.cells #[.int .i64 c1, .int .i64 v1, .string t1, .int .i64 wa1, .int .i64 hh1] 33 (0, 0) : Obj) from row_on b RR10.out)
    have OC6 := hide (show OwnL W9 W2.heap.size 63 2 cellEn (.slice A6 l1.length c6) l1 from OwnL.below OC6.out b (Nat.le_refl _))
    have OX8 := hide (show OwnL W9 W3.heap.size 63 2 cellEn (.slice A8 a0.cells.length c8) (Pu.gen (Pu.gC 1) a0.cells.length) from OwnL.below OX8.out b (Nat.le_refl _))
    have OC9 := hide (show OwnL W9 W5.heap.size 63 2 cellEn (.slice A9 l1.length c9) l1 from OwnL.below OC9.out b (Nat.le_refl _))
    have BW := below_then BW b
    obtain ⟨_, _, _, _, _, _⟩ := five_cells RP.out
    obtain ⟨_, _, _, _, _⟩ := four_cells RX.out
    obtain ⟨_, _, _, _, _, _⟩ := five_cells RC6.out
    obtain ⟨_, _, _, _, _, _⟩ := five_cells RR7.out
    obtain ⟨_, _, _, _, _, _⟩ := five_cells RX8.out
    obtain ⟨_, _, _, _, _, _⟩ := five_cells RC9.out
    obtain ⟨_, _, _, _, _, _⟩ := five_cells RR10.out
    go_wp2_with fail
    refine (eqReply_c ⟨c1, v1, t1, wa1, hh1⟩ _).mono ?_; rintro e W10 ⟨rfl, b⟩
    have RP := hide (show W10.heap[w.heap.size]? = some (.cells #[.string a0.kind, .bool a0.on, .bool a0.broken, s0, .int .i64 a0.count] 24 (0, 0) : Obj) from row_on b RP.out)
    have RX := hide (show W10.heap[w.heap.size + 1]? = some (.cells #[.string a1.method, .string a1.key, .int .i64 a1.value, .string a1.text] 26 (0, 0) : Obj) from row_on b RX.out)
    have RC6 := hide (show W10.heap[g6]? = some (.cells #[.string k1, .bool o1, .bool b1, .slice A6 l1.length c6, .int .i64 n1] 31 (0, 0) : Obj) from row_on b RC6.out)
    have RR7 := hide (show W10.heap[g7]? = some (.cells #[.int .i64 c1, .int .i64 v1, .string t1, .int .i64 wa1, .int .i64 hh1] 33 (0, 0) : Obj) from row_on b RR7.out)
    have RX8 := hide (show W10.heap[W4.heap.size]? = some (.cells #[.string a0.kind, .bool a0.on, .bool a0.broken, .slice A8 a0.cells.length c8, .int .i64 a0.count] 31 (0, 0) : Obj) from row_on b RX8.out)
    have RC9 := hide (show W10.heap[g9]? = some (.cells #[.string k1, .bool o1, .bool b1, .slice A9 l1.length c9, .int .i64 n1] 31 (0, 0) : Obj) from row_on b RC9.out)
    have RR10 := hide (show W10.heap[g10]? = some (.cells #[.int .i64 c1, .int .i64 v1, .string t1, .int .i64 wa1, .int .i64 hh1] 33 (0, 0) : Obj) from row_on b RR10.out)
    have OC6 := hide (show OwnL W10 W2.heap.size 63 2 cellEn (.slice A6 l1.length c6) l1 from OwnL.below OC6.out b (Nat.le_refl _))
    have OX8 := hide (show OwnL W10 W3.heap.size 63 2 cellEn (.slice A8 a0.cells.length c8) (Pu.gen (Pu.gC 1) a0.cells.length) from OwnL.below OX8.out b (Nat.le_refl _))
    have OC9 := hide (show OwnL W10 W5.heap.size 63 2 cellEn (.slice A9 l1.length c9) l1 from OwnL.below OC9.out b (Nat.le_refl _))
    have BW := below_then BW b
    obtain ⟨_, _, _, _, _, _⟩ := five_cells RP.out
    obtain ⟨_, _, _, _, _⟩ := four_cells RX.out
    obtain ⟨_, _, _, _, _, _⟩ := five_cells RC6.out
    obtain ⟨_, _, _, _, _, _⟩ := five_cells RR7.out
    obtain ⟨_, _, _, _, _, _⟩ := five_cells RX8.out
    obtain ⟨_, _, _, _, _, _⟩ := five_cells RC9.out
    obtain ⟨_, _, _, _, _, _⟩ := five_cells RR10.out
    go_wp2_with fail
    refine (markCore_c ⟨k1, o1, b1, l1, n1⟩ _ _ 1 _ _ OC9.out (by omega) (by omega) (by omega)).mono ?_; rintro e WQ ⟨rfl, om, gm⟩
    have RP := hide (show WQ.heap[w.heap.size]? = some (.cells #[.string a0.kind, .bool a0.on, .bool a0.broken, s0, .int .i64 a0.count] 24 (0, 0) : Obj) from row_grown gm RP.out (own_far OC9.out RP.out (by decide)))
    have RX := hide (show WQ.heap[w.heap.size + 1]? = some (.cells #[.string a1.method, .string a1.key, .int .i64 a1.value, .string a1.text] 26 (0, 0) : Obj) from row_grown gm RX.out (own_far OC9.out RX.out (by decide)))
    have RC6 := hide (show WQ.heap[g6]? = some (.cells #[.string k1, .bool o1, .bool b1, .slice A6 l1.length c6, .int .i64 n1] 31 (0, 0) : Obj) from row_grown gm RC6.out (own_far OC9.out RC6.out (by decide)))
    have RR7 := hide (show WQ.heap[g7]? = some (.cells #[.int .i64 c1, .int .i64 v1, .string t1, .int .i64 wa1, .int .i64 hh1] 33 (0, 0) : Obj) from row_grown gm RR7.out (own_far OC9.out RR7.out (by decide)))
    have RX8 := hide (show WQ.heap[W4.heap.size]? = some (.cells #[.string a0.kind, .bool a0.on, .bool a0.broken, .slice A8 a0.cells.length c8, .int .i64 a0.count] 31 (0, 0) : Obj) from row_grown gm RX8.out (own_far OC9.out RX8.out (by decide)))
    have RC9 := hide (show WQ.heap[g9]? = some (.cells #[.string k1, .bool o1, .bool b1, .slice A9 l1.length c9, .int .i64 n1] 31 (0, 0) : Obj) from row_grown gm RC9.out (own_far OC9.out RC9.out (by decide)))
    have RR10 := hide (show WQ.heap[g10]? = some (.cells #[.int .i64 c1, .int .i64 v1, .string t1, .int .i64 wa1, .int .i64 hh1] 33 (0, 0) : Obj) from row_grown gm RR10.out (own_far OC9.out RR10.out (by decide)))
    have OC6 := hide (show OwnL WQ W2.heap.size 63 2 cellEn (.slice A6 l1.length c6) l1 from OwnL.kept OC6.out gm SEP69.out.1)
    have OX8 := hide (show OwnL WQ W3.heap.size 63 2 cellEn (.slice A8 a0.cells.length c8) (Pu.gen (Pu.gC 1) a0.cells.length) from OwnL.kept OX8.out gm SEP89.out.1)
    have BW := Below.grown BW gm BW.size (fun j hj => Nat.le_trans (by omega) (OwnL.lt OC9.out hj).1)
    clear OC9
    have OC9 := hide (show OwnL WQ W5.heap.size 63 2 cellEn (.slice A9 l1.length c9) (Pu.gen (Pu.gC 1) l1.length) from om)
    clear om gm
    have hm2 : ¬ (1 + 2 * (l1.length : Int)) < 0 := by omega
    obtain ⟨_, _, _, _, _, _⟩ := five_cells RP.out
    obtain ⟨_, _, _, _, _⟩ := four_cells RX.out
    obtain ⟨_, _, _, _, _, _⟩ := five_cells RC6.out
    obtain ⟨_, _, _, _, _, _⟩ := five_cells RR7.out
    obtain ⟨_, _, _, _, _, _⟩ := five_cells RX8.out
    obtain ⟨_, _, _, _, _, _⟩ := five_cells RC9.out
    obtain ⟨_, _, _, _, _, _⟩ := five_cells RR10.out
    go_wp2_with fail
    refine (heldCore_c ⟨k1, o1, b1, l1, n1⟩ _ _ 1 _ (OC9.out.rd (fun _ => rfl)) (by omega) (by omega) (by omega)).mono ?_; rintro e W11 ⟨rfl, b⟩
    have RP := hide (show W11.heap[w.heap.size]? = some (.cells #[.string a0.kind, .bool a0.on, .bool a0.broken, s0, .int .i64 a0.count] 24 (0, 0) : Obj) from row_on b RP.out)
    have RX := hide (show W11.heap[w.heap.size + 1]? = some (.cells #[.string a1.method, .string a1.key, .int .i64 a1.value, .string a1.text] 26 (0, 0) : Obj) from row_on b RX.out)
    have RC6 := hide (show W11.heap[g6]? = some (.cells #[.string k1, .bool o1, .bool b1, .slice A6 l1.length c6, .int .i64 n1] 31 (0, 0) : Obj) from row_on b RC6.out)
    have RR7 := hide (show W11.heap[g7]? = some (.cells #[.int .i64 c1, .int .i64 v1, .string t1, .int .i64 wa1, .int .i64 hh1] 33 (0, 0) : Obj) from row_on b RR7.out)
    have RX8 := hide (show W11.heap[W4.heap.size]? = some (.cells #[.string a0.kind, .bool a0.on, .bool a0.broken, .slice A8 a0.cells.length c8, .int .i64 a0.count] 31 (0, 0) : Obj) from row_on b RX8.out)
    have RC9 := hide (show W11.heap[g9]? = some (.cells #[.string k1, .bool o1, .bool b1, .slice A9 l1.length c9, .int .i64 n1] 31 (0, 0) : Obj) from row_on b RC9.out)
    have RR10 := hide (show W11.heap[g10]? = some (.cells #[.int .i64 c1, .int .i64 v1, .string t1, .int .i64 wa1, .int .i64 hh1] 33 (0, 0) : Obj) from row_on b RR10.out)
    have OC6 := hide (show OwnL W11 W2.heap.size 63 2 cellEn (.slice A6 l1.length c6) l1 from OwnL.below OC6.out b (Nat.le_refl _))
    have OX8 := hide (show OwnL W11 W3.heap.size 63 2 cellEn (.slice A8 a0.cells.length c8) (Pu.gen (Pu.gC 1) a0.cells.length) from OwnL.below OX8.out b (Nat.le_refl _))
    have OC9 := hide (show OwnL W11 W5.heap.size 63 2 cellEn (.slice A9 l1.length c9) (Pu.gen (Pu.gC 1) l1.length) from OwnL.below OC9.out b (Nat.le_refl _))
    have BW := below_then BW b
    obtain ⟨_, _, _, _, _, _⟩ := five_cells RP.out
    obtain ⟨_, _, _, _, _⟩ := four_cells RX.out
    obtain ⟨_, _, _, _, _, _⟩ := five_cells RC6.out
    obtain ⟨_, _, _, _, _, _⟩ := five_cells RR7.out
    obtain ⟨_, _, _, _, _, _⟩ := five_cells RX8.out
    obtain ⟨_, _, _, _, _, _⟩ := five_cells RC9.out
    obtain ⟨_, _, _, _, _, _⟩ := five_cells RR10.out
    go_upto_region 27 with fail
    have hzP : w.heap.size < W11.heap.size := (Array.getElem?_eq_some_iff.1 RP.out).1
    have hzX : w.heap.size + 1 < W11.heap.size := (Array.getElem?_eq_some_iff.1 RX.out).1
    go_cut [14, 15] from 16 (fun s1 s2 wx => ∃ g14 g15 A14 c14, s1 = .pointer (some ⟨g14, 0, none⟩) ∧ s2 = .pointer (some ⟨g15, 0, none⟩) ∧ wx.heap[g14]? = some (.cells #[.string k1, .bool o1, .bool b1, .slice A14 l1.length c14, .int .i64 n1] 31 (0, 0) : Obj) ∧ wx.heap[g15]? = some (.cells #[.int .i64 c1, .int .i64 v1, .string t1, .int .i64 wa1, .int .i64 hh1] 33 (0, 0) : Obj) ∧ OwnL wx W11.heap.size 63 2 cellEn (.slice A14 l1.length c14) l1 ∧ Below W11.heap.size W11 wx)
    case first =>
      have h0inv : Below W11.heap.size W11 W11.drew := (Below.refl _ _).drew
      obtain ⟨G, hGdef⟩ : ∃ G : Nat → Value → World → Prop, G = (fun j v wx => match j with | 0 => (v = .agg #[.string a0.kind, .bool a0.on, .bool a0.broken, s0, .int .i64 a0.count]) | 1 => (∃ s, v = .agg #[.string a0.kind, .bool a0.on, .bool a0.broken, s, .int .i64 a0.count] ∧ OwnL wx W11.heap.size 63 2 cellEn s a0.cells) | 2 => (v = .agg #[.string a1.method, .string a1.key, .int .i64 a1.value, .string a1.text]) | 3 => (v = .agg #[.string a1.method, .string a1.key, .int .i64 a1.value, .string a1.text]) | 4 => (∃ A c, v = .tuple #[.agg #[.string k1, .bool o1, .bool b1, .slice A l1.length c, .int .i64 n1], .agg #[.int .i64 c1, .int .i64 v1, .string t1, .int .i64 wa1, .int .i64 hh1]] ∧ OwnL wx W11.heap.size 63 2 cellEn (.slice A l1.length c) l1) | 5 => (∃ A c, v = .tuple #[.agg #[.string k1, .bool o1, .bool b1, .slice A l1.length c, .int .i64 n1], .agg #[.int .i64 c1, .int .i64 v1, .string t1, .int .i64 wa1, .int .i64 hh1]] ∧ OwnL wx W11.heap.size 63 2 cellEn (.slice A l1.length c) l1) | 6 => (∃ A c, v = .agg #[.string k1, .bool o1, .bool b1, .slice A l1.length c, .int .i64 n1] ∧ OwnL wx W11.heap.size 63 2 cellEn (.slice A l1.length c) l1) | 7 => (v = .agg #[.int .i64 c1, .int .i64 v1, .string t1, .int .i64 wa1, .int .i64 hh1]) | 8 => (BlkG W11.heap.size 31 5 v wx) | 9 => (BlkG W11.heap.size 33 5 v wx) | 10 => (FinG W11.heap.size 31 (fun cs wx => ∃ A c, cs = #[.string k1, .bool o1, .bool b1, .slice A l1.length c, .int .i64 n1] ∧ OwnL wx W11.heap.size 63 2 cellEn (.slice A l1.length c) l1) v wx) | 11 => (FinG W11.heap.size 33 (fun cs wx => cs = #[.int .i64 c1, .int .i64 v1, .string t1, .int .i64 wa1, .int .i64 hh1]) v wx) | _ => True) := ⟨_, rfl⟩
      have G0 : ∀ v wx, G 0 v wx = (v = .agg #[.string a0.kind, .bool a0.on, .bool a0.broken, s0, .int .i64 a0.count]) := fun v wx => (congrFun (congrFun (congrFun hGdef 0) v) wx).trans rfl
      have G1 : ∀ v wx, G 1 v wx = (∃ s, v = .agg #[.string a0.kind, .bool a0.on, .bool a0.broken, s, .int .i64 a0.count] ∧ OwnL wx W11.heap.size 63 2 cellEn s a0.cells) := fun v wx => (congrFun (congrFun (congrFun hGdef 1) v) wx).trans rfl
      have G2 : ∀ v wx, G 2 v wx = (v = .agg #[.string a1.method, .string a1.key, .int .i64 a1.value, .string a1.text]) := fun v wx => (congrFun (congrFun (congrFun hGdef 2) v) wx).trans rfl
      have G3 : ∀ v wx, G 3 v wx = (v = .agg #[.string a1.method, .string a1.key, .int .i64 a1.value, .string a1.text]) := fun v wx => (congrFun (congrFun (congrFun hGdef 3) v) wx).trans rfl
      have G4 : ∀ v wx, G 4 v wx = (∃ A c, v = .tuple #[.agg #[.string k1, .bool o1, .bool b1, .slice A l1.length c, .int .i64 n1], .agg #[.int .i64 c1, .int .i64 v1, .string t1, .int .i64 wa1, .int .i64 hh1]] ∧ OwnL wx W11.heap.size 63 2 cellEn (.slice A l1.length c) l1) := fun v wx => (congrFun (congrFun (congrFun hGdef 4) v) wx).trans rfl
      have G5 : ∀ v wx, G 5 v wx = (∃ A c, v = .tuple #[.agg #[.string k1, .bool o1, .bool b1, .slice A l1.length c, .int .i64 n1], .agg #[.int .i64 c1, .int .i64 v1, .string t1, .int .i64 wa1, .int .i64 hh1]] ∧ OwnL wx W11.heap.size 63 2 cellEn (.slice A l1.length c) l1) := fun v wx => (congrFun (congrFun (congrFun hGdef 5) v) wx).trans rfl
      have G6 : ∀ v wx, G 6 v wx = (∃ A c, v = .agg #[.string k1, .bool o1, .bool b1, .slice A l1.length c, .int .i64 n1] ∧ OwnL wx W11.heap.size 63 2 cellEn (.slice A l1.length c) l1) := fun v wx => (congrFun (congrFun (congrFun hGdef 6) v) wx).trans rfl
      have G7 : ∀ v wx, G 7 v wx = (v = .agg #[.int .i64 c1, .int .i64 v1, .string t1, .int .i64 wa1, .int .i64 hh1]) := fun v wx => (congrFun (congrFun (congrFun hGdef 7) v) wx).trans rfl
      have G8 : ∀ v wx, G 8 v wx = (BlkG W11.heap.size 31 5 v wx) := fun v wx => (congrFun (congrFun (congrFun hGdef 8) v) wx).trans rfl
      have G9 : ∀ v wx, G 9 v wx = (BlkG W11.heap.size 33 5 v wx) := fun v wx => (congrFun (congrFun (congrFun hGdef 9) v) wx).trans rfl
      have G10 : ∀ v wx, G 10 v wx = (FinG W11.heap.size 31 (fun cs wx => ∃ A c, cs = #[.string k1, .bool o1, .bool b1, .slice A l1.length c, .int .i64 n1] ∧ OwnL wx W11.heap.size 63 2 cellEn (.slice A l1.length c) l1) v wx) := fun v wx => (congrFun (congrFun (congrFun hGdef 10) v) wx).trans rfl
      have G11 : ∀ v wx, G 11 v wx = (FinG W11.heap.size 33 (fun cs wx => cs = #[.int .i64 c1, .int .i64 v1, .string t1, .int .i64 wa1, .int .i64 hh1]) v wx) := fun v wx => (congrFun (congrFun (congrFun hGdef 11) v) wx).trans rfl
      have Gn : ∀ j v wx, G (j + 12) v wx = True := fun j v wx => (congrFun (congrFun (congrFun hGdef _) v) wx).trans rfl
      clear hGdef
      have firm0 : ∀ j v, Firm [] (G j v) := by
        intro j v
        match j with
        | 0 => rw [show G 0 v = (fun wx => v = .agg #[.string a0.kind, .bool a0.on, .bool a0.broken, s0, .int .i64 a0.count]) from funext (G0 v)]; exact firm_const _
        | 1 => rw [show G 1 v = (fun wx => ∃ s, v = .agg #[.string a0.kind, .bool a0.on, .bool a0.broken, s, .int .i64 a0.count] ∧ OwnL wx W11.heap.size 63 2 cellEn s a0.cells) from funext (G1 v)]; exact firm_ex fun _ => firm_and (firm_const _) (firm_own (by decide))
        | 2 => rw [show G 2 v = (fun wx => v = .agg #[.string a1.method, .string a1.key, .int .i64 a1.value, .string a1.text]) from funext (G2 v)]; exact firm_const _
        | 3 => rw [show G 3 v = (fun wx => v = .agg #[.string a1.method, .string a1.key, .int .i64 a1.value, .string a1.text]) from funext (G3 v)]; exact firm_const _
        | 4 => rw [show G 4 v = (fun wx => ∃ A c, v = .tuple #[.agg #[.string k1, .bool o1, .bool b1, .slice A l1.length c, .int .i64 n1], .agg #[.int .i64 c1, .int .i64 v1, .string t1, .int .i64 wa1, .int .i64 hh1]] ∧ OwnL wx W11.heap.size 63 2 cellEn (.slice A l1.length c) l1) from funext (G4 v)]; exact firm_ex fun _ => firm_ex fun _ => firm_and (firm_const _) (firm_own (by decide))
        | 5 => rw [show G 5 v = (fun wx => ∃ A c, v = .tuple #[.agg #[.string k1, .bool o1, .bool b1, .slice A l1.length c, .int .i64 n1], .agg #[.int .i64 c1, .int .i64 v1, .string t1, .int .i64 wa1, .int .i64 hh1]] ∧ OwnL wx W11.heap.size 63 2 cellEn (.slice A l1.length c) l1) from funext (G5 v)]; exact firm_ex fun _ => firm_ex fun _ => firm_and (firm_const _) (firm_own (by decide))
        | 6 => rw [show G 6 v = (fun wx => ∃ A c, v = .agg #[.string k1, .bool o1, .bool b1, .slice A l1.length c, .int .i64 n1] ∧ OwnL wx W11.heap.size 63 2 cellEn (.slice A l1.length c) l1) from funext (G6 v)]; exact firm_ex fun _ => firm_ex fun _ => firm_and (firm_const _) (firm_own (by decide))
        | 7 => rw [show G 7 v = (fun wx => v = .agg #[.int .i64 c1, .int .i64 v1, .string t1, .int .i64 wa1, .int .i64 hh1]) from funext (G7 v)]; exact firm_const _
        | 8 => rw [show G 8 v = (fun wx => BlkG W11.heap.size 31 5 v wx) from funext (G8 v)]; exact firm_blk
        | 9 => rw [show G 9 v = (fun wx => BlkG W11.heap.size 33 5 v wx) from funext (G9 v)]; exact firm_blk
        | 10 => rw [show G 10 v = (fun wx => FinG W11.heap.size 31 (fun cs wx => ∃ A c, cs = #[.string k1, .bool o1, .bool b1, .slice A l1.length c, .int .i64 n1] ∧ OwnL wx W11.heap.size 63 2 cellEn (.slice A l1.length c) l1) v wx) from funext (G10 v)]; exact firm_fin (by decide) (fun _ => firm_ex fun _ => firm_ex fun _ => firm_and (firm_const _) (firm_own (by decide)))
        | 11 => rw [show G 11 v = (fun wx => FinG W11.heap.size 33 (fun cs wx => cs = #[.int .i64 c1, .int .i64 v1, .string t1, .int .i64 wa1, .int .i64 hh1]) v wx) from funext (G11 v)]; exact firm_fin (by decide) (fun _ => firm_const _)
        | j + 12 => rw [show G (j + 12) v = (fun wx => True) from funext (Gn j v)]; exact firm_const _
      have firm1 : ∀ j v, j ≠ 10 → Firm [31] (G j v) := by
        intro j v
        match j with
        | 0 => intro h10; rw [show G 0 v = (fun wx => v = .agg #[.string a0.kind, .bool a0.on, .bool a0.broken, s0, .int .i64 a0.count]) from funext (G0 v)]; exact firm_const _
        | 1 => intro h10; rw [show G 1 v = (fun wx => ∃ s, v = .agg #[.string a0.kind, .bool a0.on, .bool a0.broken, s, .int .i64 a0.count] ∧ OwnL wx W11.heap.size 63 2 cellEn s a0.cells) from funext (G1 v)]; exact firm_ex fun _ => firm_and (firm_const _) (firm_own (by decide))
        | 2 => intro h10; rw [show G 2 v = (fun wx => v = .agg #[.string a1.method, .string a1.key, .int .i64 a1.value, .string a1.text]) from funext (G2 v)]; exact firm_const _
        | 3 => intro h10; rw [show G 3 v = (fun wx => v = .agg #[.string a1.method, .string a1.key, .int .i64 a1.value, .string a1.text]) from funext (G3 v)]; exact firm_const _
        | 4 => intro h10; rw [show G 4 v = (fun wx => ∃ A c, v = .tuple #[.agg #[.string k1, .bool o1, .bool b1, .slice A l1.length c, .int .i64 n1], .agg #[.int .i64 c1, .int .i64 v1, .string t1, .int .i64 wa1, .int .i64 hh1]] ∧ OwnL wx W11.heap.size 63 2 cellEn (.slice A l1.length c) l1) from funext (G4 v)]; exact firm_ex fun _ => firm_ex fun _ => firm_and (firm_const _) (firm_own (by decide))
        | 5 => intro h10; rw [show G 5 v = (fun wx => ∃ A c, v = .tuple #[.agg #[.string k1, .bool o1, .bool b1, .slice A l1.length c, .int .i64 n1], .agg #[.int .i64 c1, .int .i64 v1, .string t1, .int .i64 wa1, .int .i64 hh1]] ∧ OwnL wx W11.heap.size 63 2 cellEn (.slice A l1.length c) l1) from funext (G5 v)]; exact firm_ex fun _ => firm_ex fun _ => firm_and (firm_const _) (firm_own (by decide))
        | 6 => intro h10; rw [show G 6 v = (fun wx => ∃ A c, v = .agg #[.string k1, .bool o1, .bool b1, .slice A l1.length c, .int .i64 n1] ∧ OwnL wx W11.heap.size 63 2 cellEn (.slice A l1.length c) l1) from funext (G6 v)]; exact firm_ex fun _ => firm_ex fun _ => firm_and (firm_const _) (firm_own (by decide))
        | 7 => intro h10; rw [show G 7 v = (fun wx => v = .agg #[.int .i64 c1, .int .i64 v1, .string t1, .int .i64 wa1, .int .i64 hh1]) from funext (G7 v)]; exact firm_const _
        | 8 => intro h10; rw [show G 8 v = (fun wx => BlkG W11.heap.size 31 5 v wx) from funext (G8 v)]; exact firm_blk
        | 9 => intro h10; rw [show G 9 v = (fun wx => BlkG W11.heap.size 33 5 v wx) from funext (G9 v)]; exact firm_blk
        | 10 => intro h10; exact absurd rfl h10
        | 11 => intro h10; rw [show G 11 v = (fun wx => FinG W11.heap.size 33 (fun cs wx => cs = #[.int .i64 c1, .int .i64 v1, .string t1, .int .i64 wa1, .int .i64 hh1]) v wx) from funext (G11 v)]; exact firm_fin (by decide) (fun _ => firm_const _)
        | j + 12 => intro _; rw [show G (j + 12) v = (fun wx => True) from funext (Gn j v)]; exact firm_const _
      have firm2 : ∀ j v, j ≠ 11 → Firm [33] (G j v) := by
        intro j v
        match j with
        | 0 => intro h11; rw [show G 0 v = (fun wx => v = .agg #[.string a0.kind, .bool a0.on, .bool a0.broken, s0, .int .i64 a0.count]) from funext (G0 v)]; exact firm_const _
        | 1 => intro h11; rw [show G 1 v = (fun wx => ∃ s, v = .agg #[.string a0.kind, .bool a0.on, .bool a0.broken, s, .int .i64 a0.count] ∧ OwnL wx W11.heap.size 63 2 cellEn s a0.cells) from funext (G1 v)]; exact firm_ex fun _ => firm_and (firm_const _) (firm_own (by decide))
        | 2 => intro h11; rw [show G 2 v = (fun wx => v = .agg #[.string a1.method, .string a1.key, .int .i64 a1.value, .string a1.text]) from funext (G2 v)]; exact firm_const _
        | 3 => intro h11; rw [show G 3 v = (fun wx => v = .agg #[.string a1.method, .string a1.key, .int .i64 a1.value, .string a1.text]) from funext (G3 v)]; exact firm_const _
        | 4 => intro h11; rw [show G 4 v = (fun wx => ∃ A c, v = .tuple #[.agg #[.string k1, .bool o1, .bool b1, .slice A l1.length c, .int .i64 n1], .agg #[.int .i64 c1, .int .i64 v1, .string t1, .int .i64 wa1, .int .i64 hh1]] ∧ OwnL wx W11.heap.size 63 2 cellEn (.slice A l1.length c) l1) from funext (G4 v)]; exact firm_ex fun _ => firm_ex fun _ => firm_and (firm_const _) (firm_own (by decide))
        | 5 => intro h11; rw [show G 5 v = (fun wx => ∃ A c, v = .tuple #[.agg #[.string k1, .bool o1, .bool b1, .slice A l1.length c, .int .i64 n1], .agg #[.int .i64 c1, .int .i64 v1, .string t1, .int .i64 wa1, .int .i64 hh1]] ∧ OwnL wx W11.heap.size 63 2 cellEn (.slice A l1.length c) l1) from funext (G5 v)]; exact firm_ex fun _ => firm_ex fun _ => firm_and (firm_const _) (firm_own (by decide))
        | 6 => intro h11; rw [show G 6 v = (fun wx => ∃ A c, v = .agg #[.string k1, .bool o1, .bool b1, .slice A l1.length c, .int .i64 n1] ∧ OwnL wx W11.heap.size 63 2 cellEn (.slice A l1.length c) l1) from funext (G6 v)]; exact firm_ex fun _ => firm_ex fun _ => firm_and (firm_const _) (firm_own (by decide))
        | 7 => intro h11; rw [show G 7 v = (fun wx => v = .agg #[.int .i64 c1, .int .i64 v1, .string t1, .int .i64 wa1, .int .i64 hh1]) from funext (G7 v)]; exact firm_const _
        | 8 => intro h11; rw [show G 8 v = (fun wx => BlkG W11.heap.size 31 5 v wx) from funext (G8 v)]; exact firm_blk
        | 9 => intro h11; rw [show G 9 v = (fun wx => BlkG W11.heap.size 33 5 v wx) from funext (G9 v)]; exact firm_blk
        | 10 => intro h11; rw [show G 10 v = (fun wx => FinG W11.heap.size 31 (fun cs wx => ∃ A c, cs = #[.string k1, .bool o1, .bool b1, .slice A l1.length c, .int .i64 n1] ∧ OwnL wx W11.heap.size 63 2 cellEn (.slice A l1.length c) l1) v wx) from funext (G10 v)]; exact firm_fin (by decide) (fun _ => firm_ex fun _ => firm_ex fun _ => firm_and (firm_const _) (firm_own (by decide)))
        | 11 => intro h11; exact absurd rfl h11
        | j + 12 => intro _; rw [show G (j + 12) v = (fun wx => True) from funext (Gn j v)]; exact firm_const _
      refine wp_region_abs W11.heap.size W11 [14, 15, 86, 87, 88, 89, 90, 91, 92, 93] (fun j => match j with | 0 => 87 | 1 => 88 | 2 => 89 | 3 => 90 | 4 => 91 | 5 => 86 | 6 => 92 | 7 => 93 | 8 => 14 | 9 => 15 | 10 => 14 | 11 => 15 | _ => 0) (fun j => match j with | 0 => [] | 1 => [0] | 2 => [] | 3 => [2] | 4 => [0, 1, 2, 3] | 5 => [0, 1, 2, 3, 4] | 6 => [0, 1, 2, 3, 4, 5] | 7 => [0, 1, 2, 3, 4, 5] | 8 => [] | 9 => [] | 10 => [0, 1, 2, 3, 4, 5, 6, 8] | 11 => [0, 1, 2, 3, 4, 5, 7, 9] | _ => []) G (fun j => match j with | 0 => [] | 1 => [] | 2 => [] | 3 => [] | 4 => [] | 5 => [] | 6 => [] | 7 => [] | 8 => [] | 9 => [] | 10 => [31] | 11 => [33] | _ => []) 112 (by kernel_rfl) (by kernel_rfl) rfl (by decide) h0inv ?firm0 ?stp0 ?fin0
      case firm0 =>
        intro i j hj _ v
        match i with
        | 0 => exact firm0 j v
        | 1 => exact firm0 j v
        | 2 => exact firm0 j v
        | 3 => exact firm0 j v
        | 4 => exact firm0 j v
        | 5 => exact firm0 j v
        | 6 => exact firm0 j v
        | 7 => exact firm0 j v
        | 8 => exact firm0 j v
        | 9 => exact firm0 j v
        | 10 => exact firm1 j v hj
        | 11 => exact firm2 j v hj
        | i + 12 => exact firm0 j v
      case stp0 =>
        refine StepsFrom.cons ?op0_0 (StepsFrom.cons ?op0_1 (StepsFrom.cons ?op0_2 (StepsFrom.cons ?op0_3 (StepsFrom.cons ?op0_4 (StepsFrom.cons ?op0_5 (StepsFrom.cons ?op0_6 (StepsFrom.cons ?op0_7 (StepsFrom.cons ?op0_8 (StepsFrom.cons ?op0_9 (StepsFrom.cons ?op0_10 (StepsFrom.cons ?op0_11 (StepsFrom.nil))))))))))))
        case op0_0 =>
          intro vs wy b hin hout hb hdep K hK
          have t2 : b.tmps[2]? = some (.pointer (some ⟨w.heap.size, 0, none⟩)) := (hout 2 (by decide)).trans rfl
          clear hin hout hdep
          replace hK : ∀ v w', Below W11.heap.size W11 w' → Moved [] wy w' → (fun (v : Value) (wx : World) => v = .agg #[.string a0.kind, .bool a0.on, .bool a0.broken, s0, .int .i64 a0.count]) v w' → K (b.put (some 87) v) w' := fun v w' q1 q2 q3 => hK v w' q1 q2 (Eq.mpr (G0 _ _) q3)
          refine ⟨wanted_plain rfl, ?_⟩
          have KW : ∀ k : Nat, wy.cell? ⟨w.heap.size, k, none⟩ = _ := fun k => hb.cell hzP
          go_simp
          exact hK _ _ hb (moved_refl _) rfl
        case op0_1 =>
          intro vs wy b hin hout hb hdep K hK
          have h0 : (fun (v : Value) (wx : World) => v = .agg #[.string a0.kind, .bool a0.on, .bool a0.broken, s0, .int .i64 a0.count]) (vs 87) wy := by
            have h := hdep 0 (by decide)
            rw [G0] at h
            exact h
          dsimp only at h0
          have t87 := hin 87 (by decide)
          clear hin hout hdep
          replace hK : ∀ v w', Below W11.heap.size W11 w' → Moved [] wy w' → (fun (v : Value) (wx : World) => ∃ s, v = .agg #[.string a0.kind, .bool a0.on, .bool a0.broken, s, .int .i64 a0.count] ∧ OwnL wx W11.heap.size 63 2 cellEn s a0.cells) v w' → K (b.put (some 88) v) w' := fun v w' q1 q2 q3 => hK v w' q1 q2 (Eq.mpr (G1 _ _) q3)
          refine ⟨wanted_plain rfl, ?_⟩
          go_simp
          refine (toCore_c a0 s0 _ (RdL.below (RdL.below r0 BW (Nat.le_refl _)) hb (Nat.le_refl _)) hln).mono ?_
          rintro e wz ⟨vT, rfl, oT, bT⟩
          exact hK _ _ (below_then hb bT) (.inl bT) ⟨vT, rfl, OwnL.mono oT hb.size⟩
        case op0_2 =>
          intro vs wy b hin hout hb hdep K hK
          have t3 : b.tmps[3]? = some (.pointer (some ⟨w.heap.size + 1, 0, none⟩)) := (hout 3 (by decide)).trans rfl
          clear hin hout hdep
          replace hK : ∀ v w', Below W11.heap.size W11 w' → Moved [] wy w' → (fun (v : Value) (wx : World) => v = .agg #[.string a1.method, .string a1.key, .int .i64 a1.value, .string a1.text]) v w' → K (b.put (some 89) v) w' := fun v w' q1 q2 q3 => hK v w' q1 q2 (Eq.mpr (G2 _ _) q3)
          refine ⟨wanted_plain rfl, ?_⟩
          have KW : ∀ k : Nat, wy.cell? ⟨w.heap.size + 1, k, none⟩ = _ := fun k => hb.cell hzX
          go_simp
          exact hK _ _ hb (moved_refl _) rfl
        case op0_3 =>
          intro vs wy b hin hout hb hdep K hK
          have h2 : (fun (v : Value) (wx : World) => v = .agg #[.string a1.method, .string a1.key, .int .i64 a1.value, .string a1.text]) (vs 89) wy := by
            have h := hdep 2 (by decide)
            rw [G2] at h
            exact h
          dsimp only at h2
          have t89 := hin 89 (by decide)
          clear hin hout hdep
          replace hK : ∀ v w', Below W11.heap.size W11 w' → Moved [] wy w' → (fun (v : Value) (wx : World) => v = .agg #[.string a1.method, .string a1.key, .int .i64 a1.value, .string a1.text]) v w' → K (b.put (some 90) v) w' := fun v w' q1 q2 q3 => hK v w' q1 q2 (Eq.mpr (G3 _ _) q3)
          refine ⟨wanted_plain rfl, ?_⟩
          go_simp
          refine (toCall_c a1 _).mono ?_
          rintro e wz ⟨rfl, bT⟩
          exact hK _ _ (below_then hb bT) (.inl bT) rfl
        case op0_4 =>
          intro vs wy b hin hout hb hdep K hK
          have h1 : (fun (v : Value) (wx : World) => ∃ s, v = .agg #[.string a0.kind, .bool a0.on, .bool a0.broken, s, .int .i64 a0.count] ∧ OwnL wx W11.heap.size 63 2 cellEn s a0.cells) (vs 88) wy := by
            have h := hdep 1 (by decide)
            rw [G1] at h
            exact h
          dsimp only at h1
          have h3 : (fun (v : Value) (wx : World) => v = .agg #[.string a1.method, .string a1.key, .int .i64 a1.value, .string a1.text]) (vs 90) wy := by
            have h := hdep 3 (by decide)
            rw [G3] at h
            exact h
          dsimp only at h3
          have t88 := hin 88 (by decide)
          have t90 := hin 90 (by decide)
          clear hin hout hdep
          replace hK : ∀ v w', Below W11.heap.size W11 w' → Moved [] wy w' → (fun (v : Value) (wx : World) => ∃ A c, v = .tuple #[.agg #[.string k1, .bool o1, .bool b1, .slice A l1.length c, .int .i64 n1], .agg #[.int .i64 c1, .int .i64 v1, .string t1, .int .i64 wa1, .int .i64 hh1]] ∧ OwnL wx W11.heap.size 63 2 cellEn (.slice A l1.length c) l1) v w' → K (b.put (some 91) v) w' := fun v w' q1 q2 q3 => hK v w' q1 q2 (Eq.mpr (G4 _ _) q3)
          refine ⟨wanted_plain rfl, ?_⟩
          obtain ⟨sC, eC, oC⟩ := h1
          have eX := h3
          go_simp
          refine (iCallCore_x a0 a1 _ _ k1 t1 o1 b1 l1 n1 c1 v1 wa1 hh1 (HM.out.below (below_then BW hb) hlM) (HT.out.below (below_then BW hb) hlT) (HE.out.below (below_then BW hb) hlE) WF0.out WF1.out ⟨oC.rd (fun _ => rfl), Z0.out⟩ (by omega) htx HR).mono ?_
          rintro e wz ⟨A9, c9, rfl, oS, bS⟩
          exact hK _ _ (below_then hb bS) (.inl bS) ⟨A9, c9, rfl, OwnL.mono oS hb.size⟩
        case op0_5 =>
          intro vs wy b hin hout hb hdep K hK
          have h4 : (fun (v : Value) (wx : World) => ∃ A c, v = .tuple #[.agg #[.string k1, .bool o1, .bool b1, .slice A l1.length c, .int .i64 n1], .agg #[.int .i64 c1, .int .i64 v1, .string t1, .int .i64 wa1, .int .i64 hh1]] ∧ OwnL wx W11.heap.size 63 2 cellEn (.slice A l1.length c) l1) (vs 91) wy := by
            have h := hdep 4 (by decide)
            rw [G4] at h
            exact h
          dsimp only at h4
          have t91 := hin 91 (by decide)
          clear hin hout hdep
          replace hK : ∀ v w', Below W11.heap.size W11 w' → Moved [] wy w' → (fun (v : Value) (wx : World) => ∃ A c, v = .tuple #[.agg #[.string k1, .bool o1, .bool b1, .slice A l1.length c, .int .i64 n1], .agg #[.int .i64 c1, .int .i64 v1, .string t1, .int .i64 wa1, .int .i64 hh1]] ∧ OwnL wx W11.heap.size 63 2 cellEn (.slice A l1.length c) l1) v w' → K (b.put (some 86) v) w' := fun v w' q1 q2 q3 => hK v w' q1 q2 (Eq.mpr (G5 _ _) q3)
          refine ⟨wanted_plain rfl, ?_⟩
          obtain ⟨A9, c9, e9, o9⟩ := h4
          go_simp
          exact hK _ _ hb (moved_refl _) ⟨A9, c9, rfl, o9⟩
        case op0_6 =>
          intro vs wy b hin hout hb hdep K hK
          have h5 : (fun (v : Value) (wx : World) => ∃ A c, v = .tuple #[.agg #[.string k1, .bool o1, .bool b1, .slice A l1.length c, .int .i64 n1], .agg #[.int .i64 c1, .int .i64 v1, .string t1, .int .i64 wa1, .int .i64 hh1]] ∧ OwnL wx W11.heap.size 63 2 cellEn (.slice A l1.length c) l1) (vs 86) wy := by
            have h := hdep 5 (by decide)
            rw [G5] at h
            exact h
          dsimp only at h5
          have t86 := hin 86 (by decide)
          clear hin hout hdep
          replace hK : ∀ v w', Below W11.heap.size W11 w' → Moved [] wy w' → (fun (v : Value) (wx : World) => ∃ A c, v = .agg #[.string k1, .bool o1, .bool b1, .slice A l1.length c, .int .i64 n1] ∧ OwnL wx W11.heap.size 63 2 cellEn (.slice A l1.length c) l1) v w' → K (b.put (some 92) v) w' := fun v w' q1 q2 q3 => hK v w' q1 q2 (Eq.mpr (G6 _ _) q3)
          refine ⟨wanted_plain rfl, ?_⟩
          obtain ⟨A9, c9, e9, o9⟩ := h5
          go_simp
          exact hK _ _ hb (moved_refl _) ⟨A9, c9, rfl, o9⟩
        case op0_7 =>
          intro vs wy b hin hout hb hdep K hK
          have h5 : (fun (v : Value) (wx : World) => ∃ A c, v = .tuple #[.agg #[.string k1, .bool o1, .bool b1, .slice A l1.length c, .int .i64 n1], .agg #[.int .i64 c1, .int .i64 v1, .string t1, .int .i64 wa1, .int .i64 hh1]] ∧ OwnL wx W11.heap.size 63 2 cellEn (.slice A l1.length c) l1) (vs 86) wy := by
            have h := hdep 5 (by decide)
            rw [G5] at h
            exact h
          dsimp only at h5
          have t86 := hin 86 (by decide)
          clear hin hout hdep
          replace hK : ∀ v w', Below W11.heap.size W11 w' → Moved [] wy w' → (fun (v : Value) (wx : World) => v = .agg #[.int .i64 c1, .int .i64 v1, .string t1, .int .i64 wa1, .int .i64 hh1]) v w' → K (b.put (some 93) v) w' := fun v w' q1 q2 q3 => hK v w' q1 q2 (Eq.mpr (G7 _ _) q3)
          refine ⟨wanted_plain rfl, ?_⟩
          obtain ⟨A9, c9, e9, o9⟩ := h5
          go_simp
          exact hK _ _ hb (moved_refl _) rfl
        case op0_8 =>
          intro vs wy b hin hout hb hdep K hK
          clear hin hout hdep
          replace hK : ∀ v w', Below W11.heap.size W11 w' → Moved [] wy w' → (fun (v : Value) (wx : World) => BlkG W11.heap.size 31 5 v wx) v w' → K (b.put (some 14) v) w' := fun v w' q1 q2 q3 => hK v w' q1 q2 (Eq.mpr (G8 _ _) q3)
          refine ⟨wanted_plain rfl, ?_⟩
          go_simp
          exact hK _ _ (below_alloc hb _) (.inl (below_alloc (Below.refl _ _) _)) ⟨_, _, rfl, hb.size, heap_new rfl, rfl⟩
        case op0_9 =>
          intro vs wy b hin hout hb hdep K hK
          clear hin hout hdep
          replace hK : ∀ v w', Below W11.heap.size W11 w' → Moved [] wy w' → (fun (v : Value) (wx : World) => BlkG W11.heap.size 33 5 v wx) v w' → K (b.put (some 15) v) w' := fun v w' q1 q2 q3 => hK v w' q1 q2 (Eq.mpr (G9 _ _) q3)
          refine ⟨wanted_plain rfl, ?_⟩
          go_simp
          exact hK _ _ (below_alloc hb _) (.inl (below_alloc (Below.refl _ _) _)) ⟨_, _, rfl, hb.size, heap_new rfl, rfl⟩
        case op0_10 =>
          intro vs wy b hin hout hb hdep K hK
          have h8 : (fun (v : Value) (wx : World) => BlkG W11.heap.size 31 5 v wx) (vs 14) wy := by
            have h := hdep 8 (by decide)
            rw [G8] at h
            exact h
          dsimp only at h8
          have h6 : (fun (v : Value) (wx : World) => ∃ A c, v = .agg #[.string k1, .bool o1, .bool b1, .slice A l1.length c, .int .i64 n1] ∧ OwnL wx W11.heap.size 63 2 cellEn (.slice A l1.length c) l1) (vs 92) wy := by
            have h := hdep 6 (by decide)
            rw [G6] at h
            exact h
          dsimp only at h6
          have t14 := hin 14 (by decide)
          have t92 := hin 92 (by decide)
          clear hin hout hdep
          replace hK : ∀ v w', Below W11.heap.size W11 w' → Moved [31] wy w' → (fun (v : Value) (wx : World) => FinG W11.heap.size 31 (fun cs wx => ∃ A c, cs = #[.string k1, .bool o1, .bool b1, .slice A l1.length c, .int .i64 n1] ∧ OwnL wx W11.heap.size 63 2 cellEn (.slice A l1.length c) l1) v wx) (vs 14) w' → K (b.put (none) v) w' := fun v w' q1 q2 q3 => hK v w' q1 q2 (Eq.mpr (G10 _ _) q3)
          refine ⟨wanted_plain rfl, ?_⟩
          obtain ⟨g9, cs9, e8, hB9, hg9, hn9⟩ := h8
          obtain ⟨x0, x1, x2, x3, x4, rfl⟩ := five_of hn9
          obtain ⟨_, _, _, _, _, _⟩ := five_cells hg9
          obtain ⟨A9, c9, e9, o9⟩ := h6
          go_simp
          have hst := store5 (.string k1) (.bool o1) (.bool b1) (.slice A9 l1.length c9) (.int .i64 n1) hg9 hn9
          refine hK undef _ ?_ (.inr ⟨g9, 31, by simp, hst.2⟩) ⟨g9, _, e8, hB9, hst.1, A9, c9, rfl, firm_own (TS := [31]) (by decide) _ _ (.inr ⟨g9, 31, by simp, hst.2⟩) o9⟩
          obtain ⟨_, _, _, _, _, hgr⟩ := hst.2
          exact Below.grown hb hgr hb.size (fun k hk => by obtain rfl := Option.some.inj hk; exact hB9)
        case op0_11 =>
          intro vs wy b hin hout hb hdep K hK
          have h9 : (fun (v : Value) (wx : World) => BlkG W11.heap.size 33 5 v wx) (vs 15) wy := by
            have h := hdep 9 (by decide)
            rw [G9] at h
            exact h
          dsimp only at h9
          have h7 : (fun (v : Value) (wx : World) => v = .agg #[.int .i64 c1, .int .i64 v1, .string t1, .int .i64 wa1, .int .i64 hh1]) (vs 93) wy := by
            have h := hdep 7 (by decide)
            rw [G7] at h
            exact h
          dsimp only at h7
          have t15 := hin 15 (by decide)
          have t93 := hin 93 (by decide)
          clear hin hout hdep
          replace hK : ∀ v w', Below W11.heap.size W11 w' → Moved [33] wy w' → (fun (v : Value) (wx : World) => FinG W11.heap.size 33 (fun cs wx => cs = #[.int .i64 c1, .int .i64 v1, .string t1, .int .i64 wa1, .int .i64 hh1]) v wx) (vs 15) w' → K (b.put (none) v) w' := fun v w' q1 q2 q3 => hK v w' q1 q2 (Eq.mpr (G11 _ _) q3)
          refine ⟨wanted_plain rfl, ?_⟩
          obtain ⟨g9, cs9, e8, hB9, hg9, hn9⟩ := h9
          obtain ⟨x0, x1, x2, x3, x4, rfl⟩ := five_of hn9
          obtain ⟨_, _, _, _, _, _⟩ := five_cells hg9
          have e9 := h7
          go_simp
          have hst := store5 (.int .i64 c1) (.int .i64 v1) (.string t1) (.int .i64 wa1) (.int .i64 hh1) hg9 hn9
          refine hK undef _ ?_ (.inr ⟨g9, 33, by simp, hst.2⟩) ⟨g9, _, e8, hB9, hst.1, rfl⟩
          obtain ⟨_, _, _, _, _, hgr⟩ := hst.2
          exact Below.grown hb hgr hb.size (fun k hk => by obtain rfl := Option.some.inj hk; exact hB9)
      case fin0 =>
        intro vs wz b hin hbeq hb hall
        have f10 : (fun (v : Value) (wx : World) => FinG W11.heap.size 31 (fun cs wx => ∃ A c, cs = #[.string k1, .bool o1, .bool b1, .slice A l1.length c, .int .i64 n1] ∧ OwnL wx W11.heap.size 63 2 cellEn (.slice A l1.length c) l1) v wx) (vs 14) wz := by
          have h := hall 10 (by decide)
          rw [G10] at h
          exact h
        dsimp only at f10
        have f11 : (fun (v : Value) (wx : World) => FinG W11.heap.size 33 (fun cs wx => cs = #[.int .i64 c1, .int .i64 v1, .string t1, .int .i64 wa1, .int .i64 hh1]) v wx) (vs 15) wz := by
          have h := hall 11 (by decide)
          rw [G11] at h
          exact h
        dsimp only at f11
        clear hall hin
        subst hbeq
        simp only [actAt, slots, List.foldl_cons, List.foldl_nil, List.setIfInBounds_toArray, List.set_cons_zero, List.set_cons_succ]
        obtain ⟨g1, cs1, e1, _, hg1, A1, c1_, rfl, hO1⟩ := f10
        obtain ⟨g2, cs2, e2, _, hg2, rfl⟩ := f11
        go_wp2_with fail
        go_meet
        exact ⟨g1, g2, A1, c1_, (by first | exact e1 | rfl), (by first | exact e2 | rfl), hg1, hg2, hO1, hb⟩
    case rest =>
    obtain ⟨g14, g15, A14, c14, rfl, rfl, hr1, hr2, ho1, hb1⟩ := hcut
    have RC14 := hide hr1
    have RR15 := hide hr2
    have OC14 := hide ho1
    have BXC14 := hide hb1
    clear hr1 hr2 ho1 hb1
    obtain ⟨WY, hxWY⟩ : ∃ W, wc = W := ⟨_, rfl⟩
    rw [hxWY] at RC14 RR15 OC14 BXC14
    rw [hxWY]
    clear hxWY
    have hsWY := Below.size BXC14.out
    have RP := hide (show WY.heap[w.heap.size]? = some (.cells #[.string a0.kind, .bool a0.on, .bool a0.broken, s0, .int .i64 a0.count] 24 (0, 0) : Obj) from row_on BXC14.out RP.out)
    have RX := hide (show WY.heap[w.heap.size + 1]? = some (.cells #[.string a1.method, .string a1.key, .int .i64 a1.value, .string a1.text] 26 (0, 0) : Obj) from row_on BXC14.out RX.out)
    have RC6 := hide (show WY.heap[g6]? = some (.cells #[.string k1, .bool o1, .bool b1, .slice A6 l1.length c6, .int .i64 n1] 31 (0, 0) : Obj) from row_on BXC14.out RC6.out)
    have RR7 := hide (show WY.heap[g7]? = some (.cells #[.int .i64 c1, .int .i64 v1, .string t1, .int .i64 wa1, .int .i64 hh1] 33 (0, 0) : Obj) from row_on BXC14.out RR7.out)
    have RX8 := hide (show WY.heap[W4.heap.size]? = some (.cells #[.string a0.kind, .bool a0.on, .bool a0.broken, .slice A8 a0.cells.length c8, .int .i64 a0.count] 31 (0, 0) : Obj) from row_on BXC14.out RX8.out)
    have RC9 := hide (show WY.heap[g9]? = some (.cells #[.string k1, .bool o1, .bool b1, .slice A9 l1.length c9, .int .i64 n1] 31 (0, 0) : Obj) from row_on BXC14.out RC9.out)
    have RR10 := hide (show WY.heap[g10]? = some (.cells #[.int .i64 c1, .int .i64 v1, .string t1, .int .i64 wa1, .int .i64 hh1] 33 (0, 0) : Obj) from row_on BXC14.out RR10.out)
    have OC6 := hide (show OwnL WY W2.heap.size 63 2 cellEn (.slice A6 l1.length c6) l1 from OwnL.below OC6.out BXC14.out (Nat.le_refl _))
    have OX8 := hide (show OwnL WY W3.heap.size 63 2 cellEn (.slice A8 a0.cells.length c8) (Pu.gen (Pu.gC 1) a0.cells.length) from OwnL.below OX8.out BXC14.out (Nat.le_refl _))
    have OC9 := hide (show OwnL WY W5.heap.size 63 2 cellEn (.slice A9 l1.length c9) (Pu.gen (Pu.gC 1) l1.length) from OwnL.below OC9.out BXC14.out (Nat.le_refl _))
    have BW := below_then BW BXC14.out
    obtain ⟨_, _, _, _, _, _⟩ := five_cells RP.out
    obtain ⟨_, _, _, _, _⟩ := four_cells RX.out
    obtain ⟨_, _, _, _, _, _⟩ := five_cells RC6.out
    obtain ⟨_, _, _, _, _, _⟩ := five_cells RR7.out
    obtain ⟨_, _, _, _, _, _⟩ := five_cells RX8.out
    obtain ⟨_, _, _, _, _, _⟩ := five_cells RC9.out
    obtain ⟨_, _, _, _, _, _⟩ := five_cells RR10.out
    obtain ⟨_, _, _, _, _, _⟩ := five_cells RC14.out
    obtain ⟨_, _, _, _, _, _⟩ := five_cells RR15.out
    go_wp2_with fail
    refine (eqCore_c ⟨k1, o1, b1, l1, n1⟩ ⟨k1, o1, b1, l1, n1⟩ _ _ _ rfl (OC14.out.rd (fun _ => rfl)) (OC6.out.rd (fun _ => rfl))).mono ?_; rintro e W12 ⟨rfl, b⟩
    have RP := hide (show W12.heap[w.heap.size]? = some (.cells #[.string a0.kind, .bool a0.on, .bool a0.broken, s0, .int .i64 a0.count] 24 (0, 0) : Obj) from row_on b RP.out)
    have RX := hide (show W12.heap[w.heap.size + 1]? = some (.cells #[.string a1.method, .string a1.key, .int .i64 a1.value, .string a1.text] 26 (0, 0) : Obj) from row_on b RX.out)
    have RC6 := hide (show W12.heap[g6]? = some (.cells #[.string k1, .bool o1, .bool b1, .slice A6 l1.length c6, .int .i64 n1] 31 (0, 0) : Obj) from row_on b RC6.out)
    have RR7 := hide (show W12.heap[g7]? = some (.cells #[.int .i64 c1, .int .i64 v1, .string t1, .int .i64 wa1, .int .i64 hh1] 33 (0, 0) : Obj) from row_on b RR7.out)
    have RX8 := hide (show W12.heap[W4.heap.size]? = some (.cells #[.string a0.kind, .bool a0.on, .bool a0.broken, .slice A8 a0.cells.length c8, .int .i64 a0.count] 31 (0, 0) : Obj) from row_on b RX8.out)
    have RC9 := hide (show W12.heap[g9]? = some (.cells #[.string k1, .bool o1, .bool b1, .slice A9 l1.length c9, .int .i64 n1] 31 (0, 0) : Obj) from row_on b RC9.out)
    have RR10 := hide (show W12.heap[g10]? = some (.cells #[.int .i64 c1, .int .i64 v1, .string t1, .int .i64 wa1, .int .i64 hh1] 33 (0, 0) : Obj) from row_on b RR10.out)
    have RC14 := hide (show W12.heap[g14]? = some (.cells #[.string k1, .bool o1, .bool b1, .slice A14 l1.length c14, .int .i64 n1] 31 (0, 0) : Obj) from row_on b RC14.out)
    have RR15 := hide (show W12.heap[g15]? = some (.cells #[.int .i64 c1, .int .i64 v1, .string t1, .int .i64 wa1, .int .i64 hh1] 33 (0, 0) : Obj) from row_on b RR15.out)
    have OC6 := hide (show OwnL W12 W2.heap.size 63 2 cellEn (.slice A6 l1.length c6) l1 from OwnL.below OC6.out b (Nat.le_refl _))
    have OX8 := hide (show OwnL W12 W3.heap.size 63 2 cellEn (.slice A8 a0.cells.length c8) (Pu.gen (Pu.gC 1) a0.cells.length) from OwnL.below OX8.out b (Nat.le_refl _))
    have OC9 := hide (show OwnL W12 W5.heap.size 63 2 cellEn (.slice A9 l1.length c9) (Pu.gen (Pu.gC 1) l1.length) from OwnL.below OC9.out b (Nat.le_refl _))
    have OC14 := hide (show OwnL W12 W11.heap.size 63 2 cellEn (.slice A14 l1.length c14) l1 from OwnL.below OC14.out b (Nat.le_refl _))
    have BW := below_then BW b
    obtain ⟨_, _, _, _, _, _⟩ := five_cells RP.out
    obtain ⟨_, _, _, _, _⟩ := four_cells RX.out
    obtain ⟨_, _, _, _, _, _⟩ := five_cells RC6.out
    obtain ⟨_, _, _, _, _, _⟩ := five_cells RR7.out
    obtain ⟨_, _, _, _, _, _⟩ := five_cells RX8.out
    obtain ⟨_, _, _, _, _, _⟩ := five_cells RC9.out
    obtain ⟨_, _, _, _, _, _⟩ := five_cells RR10.out
    obtain ⟨_, _, _, _, _, _⟩ := five_cells RC14.out
    obtain ⟨_, _, _, _, _, _⟩ := five_cells RR15.out
    go_wp2_with fail
    refine (eqReply_c ⟨c1, v1, t1, wa1, hh1⟩ _).mono ?_; rintro e W13 ⟨rfl, b⟩
    have RP := hide (show W13.heap[w.heap.size]? = some (.cells #[.string a0.kind, .bool a0.on, .bool a0.broken, s0, .int .i64 a0.count] 24 (0, 0) : Obj) from row_on b RP.out)
    have RX := hide (show W13.heap[w.heap.size + 1]? = some (.cells #[.string a1.method, .string a1.key, .int .i64 a1.value, .string a1.text] 26 (0, 0) : Obj) from row_on b RX.out)
    have RC6 := hide (show W13.heap[g6]? = some (.cells #[.string k1, .bool o1, .bool b1, .slice A6 l1.length c6, .int .i64 n1] 31 (0, 0) : Obj) from row_on b RC6.out)
    have RR7 := hide (show W13.heap[g7]? = some (.cells #[.int .i64 c1, .int .i64 v1, .string t1, .int .i64 wa1, .int .i64 hh1] 33 (0, 0) : Obj) from row_on b RR7.out)
    have RX8 := hide (show W13.heap[W4.heap.size]? = some (.cells #[.string a0.kind, .bool a0.on, .bool a0.broken, .slice A8 a0.cells.length c8, .int .i64 a0.count] 31 (0, 0) : Obj) from row_on b RX8.out)
    have RC9 := hide (show W13.heap[g9]? = some (.cells #[.string k1, .bool o1, .bool b1, .slice A9 l1.length c9, .int .i64 n1] 31 (0, 0) : Obj) from row_on b RC9.out)
    have RR10 := hide (show W13.heap[g10]? = some (.cells #[.int .i64 c1, .int .i64 v1, .string t1, .int .i64 wa1, .int .i64 hh1] 33 (0, 0) : Obj) from row_on b RR10.out)
    have RC14 := hide (show W13.heap[g14]? = some (.cells #[.string k1, .bool o1, .bool b1, .slice A14 l1.length c14, .int .i64 n1] 31 (0, 0) : Obj) from row_on b RC14.out)
    have RR15 := hide (show W13.heap[g15]? = some (.cells #[.int .i64 c1, .int .i64 v1, .string t1, .int .i64 wa1, .int .i64 hh1] 33 (0, 0) : Obj) from row_on b RR15.out)
    have OC6 := hide (show OwnL W13 W2.heap.size 63 2 cellEn (.slice A6 l1.length c6) l1 from OwnL.below OC6.out b (Nat.le_refl _))
    have OX8 := hide (show OwnL W13 W3.heap.size 63 2 cellEn (.slice A8 a0.cells.length c8) (Pu.gen (Pu.gC 1) a0.cells.length) from OwnL.below OX8.out b (Nat.le_refl _))
    have OC9 := hide (show OwnL W13 W5.heap.size 63 2 cellEn (.slice A9 l1.length c9) (Pu.gen (Pu.gC 1) l1.length) from OwnL.below OC9.out b (Nat.le_refl _))
    have OC14 := hide (show OwnL W13 W11.heap.size 63 2 cellEn (.slice A14 l1.length c14) l1 from OwnL.below OC14.out b (Nat.le_refl _))
    have BW := below_then BW b
    obtain ⟨_, _, _, _, _, _⟩ := five_cells RP.out
    obtain ⟨_, _, _, _, _⟩ := four_cells RX.out
    obtain ⟨_, _, _, _, _, _⟩ := five_cells RC6.out
    obtain ⟨_, _, _, _, _, _⟩ := five_cells RR7.out
    obtain ⟨_, _, _, _, _, _⟩ := five_cells RX8.out
    obtain ⟨_, _, _, _, _, _⟩ := five_cells RC9.out
    obtain ⟨_, _, _, _, _, _⟩ := five_cells RR10.out
    obtain ⟨_, _, _, _, _, _⟩ := five_cells RC14.out
    obtain ⟨_, _, _, _, _, _⟩ := five_cells RR15.out
    obtain ⟨_, _, _, _, _, _⟩ := five_cells RP.out
    obtain ⟨_, _, _, _, _⟩ := four_cells RX.out
    obtain ⟨_, _, _, _, _, _⟩ := five_cells RC6.out
    obtain ⟨_, _, _, _, _, _⟩ := five_cells RR7.out
    obtain ⟨_, _, _, _, _, _⟩ := five_cells RX8.out
    obtain ⟨_, _, _, _, _, _⟩ := five_cells RC9.out
    obtain ⟨_, _, _, _, _, _⟩ := five_cells RR10.out
    obtain ⟨_, _, _, _, _, _⟩ := five_cells RC14.out
    obtain ⟨_, _, _, _, _, _⟩ := five_cells RR15.out
    go_wp2_with fail
    refine (heldCore_c ⟨k1, o1, b1, l1, n1⟩ _ _ 1 _ (OC9.out.rd (fun _ => rfl)) (by omega) (by omega) (by omega)).mono ?_; rintro e W14 ⟨rfl, b⟩
    have RP := hide (show W14.heap[w.heap.size]? = some (.cells #[.string a0.kind, .bool a0.on, .bool a0.broken, s0, .int .i64 a0.count] 24 (0, 0) : Obj) from row_on b RP.out)
    have RX := hide (show W14.heap[w.heap.size + 1]? = some (.cells #[.string a1.method, .string a1.key, .int .i64 a1.value, .string a1.text] 26 (0, 0) : Obj) from row_on b RX.out)
    have RC6 := hide (show W14.heap[g6]? = some (.cells #[.string k1, .bool o1, .bool b1, .slice A6 l1.length c6, .int .i64 n1] 31 (0, 0) : Obj) from row_on b RC6.out)
    have RR7 := hide (show W14.heap[g7]? = some (.cells #[.int .i64 c1, .int .i64 v1, .string t1, .int .i64 wa1, .int .i64 hh1] 33 (0, 0) : Obj) from row_on b RR7.out)
    have RX8 := hide (show W14.heap[W4.heap.size]? = some (.cells #[.string a0.kind, .bool a0.on, .bool a0.broken, .slice A8 a0.cells.length c8, .int .i64 a0.count] 31 (0, 0) : Obj) from row_on b RX8.out)
    have RC9 := hide (show W14.heap[g9]? = some (.cells #[.string k1, .bool o1, .bool b1, .slice A9 l1.length c9, .int .i64 n1] 31 (0, 0) : Obj) from row_on b RC9.out)
    have RR10 := hide (show W14.heap[g10]? = some (.cells #[.int .i64 c1, .int .i64 v1, .string t1, .int .i64 wa1, .int .i64 hh1] 33 (0, 0) : Obj) from row_on b RR10.out)
    have RC14 := hide (show W14.heap[g14]? = some (.cells #[.string k1, .bool o1, .bool b1, .slice A14 l1.length c14, .int .i64 n1] 31 (0, 0) : Obj) from row_on b RC14.out)
    have RR15 := hide (show W14.heap[g15]? = some (.cells #[.int .i64 c1, .int .i64 v1, .string t1, .int .i64 wa1, .int .i64 hh1] 33 (0, 0) : Obj) from row_on b RR15.out)
    have OC6 := hide (show OwnL W14 W2.heap.size 63 2 cellEn (.slice A6 l1.length c6) l1 from OwnL.below OC6.out b (Nat.le_refl _))
    have OX8 := hide (show OwnL W14 W3.heap.size 63 2 cellEn (.slice A8 a0.cells.length c8) (Pu.gen (Pu.gC 1) a0.cells.length) from OwnL.below OX8.out b (Nat.le_refl _))
    have OC9 := hide (show OwnL W14 W5.heap.size 63 2 cellEn (.slice A9 l1.length c9) (Pu.gen (Pu.gC 1) l1.length) from OwnL.below OC9.out b (Nat.le_refl _))
    have OC14 := hide (show OwnL W14 W11.heap.size 63 2 cellEn (.slice A14 l1.length c14) l1 from OwnL.below OC14.out b (Nat.le_refl _))
    have BW := below_then BW b
    go_wp2
    go_ret
    exact ⟨rfl, BW⟩
  · have hsz : Hid (Pu.szCore a0 1048576 = -1) := by rw [Hid, Pu.szCore, if_neg hs]
    unfold coreV callV
    go_enter Tryz.func3, Tryz.ntmps3
    obtain ⟨w0, hw0⟩ : ∃ w0, Hid ((w.alloc (.cells #[.string a0.kind, .bool a0.on, .bool a0.broken, s0, .int .i64 a0.count] 24 : Obj)).alloc (.cells #[.string a1.method, .string a1.key, .int .i64 a1.value, .string a1.text] 26 : Obj) = w0) := ⟨_, rfl⟩
    have BW : Below w.heap.size w w0 := by rw [← hw0.out]; exact below_alloc (below_alloc (Below.refl _ _) _) _
    have RP := hide (show w0.heap[w.heap.size]? = some (.cells #[.string a0.kind, .bool a0.on, .bool a0.broken, s0, .int .i64 a0.count] 24 (0, 0) : Obj) by rw [← hw0.out]; exact heap_old (by simp) (heap_new rfl))
    have RX := hide (show w0.heap[w.heap.size + 1]? = some (.cells #[.string a1.method, .string a1.key, .int .i64 a1.value, .string a1.text] 26 (0, 0) : Obj) by rw [← hw0.out]; exact heap_new (by simp))
    go_wp2_with fail
    rw [hw0.out]
    refine (szCore_c a0 s0 1048576 _ WF0.out (RdCells.below ⟨r0, Z0.out⟩ BW) (by omega) (by omega)).mono ?_; rintro e W1 ⟨rfl, y1⟩
    rw [hsz.out]
    have RP := hide (show W1.heap[w.heap.size]? = some (.cells #[.string a0.kind, .bool a0.on, .bool a0.broken, s0, .int .i64 a0.count] 24 (0, 0) : Obj) from row_on y1 RP.out)
    have RX := hide (show W1.heap[w.heap.size + 1]? = some (.cells #[.string a1.method, .string a1.key, .int .i64 a1.value, .string a1.text] 26 (0, 0) : Obj) from row_on y1 RX.out)
    have BW := below_then BW y1
    go_wp2
    go_ret
    exact ⟨rfl, BW⟩

/-- The laid heap meets the condition. -/
theorem door_met (os : Os) (args : Array Value) : laidMetH Tryz.prog Rows.fnExactCallCoreRow.laid ((World.laidAll Tryz.prog os Rows.fnExactCallCoreRow.laid).forCall (fun _ _ => 0) ⟨#[], args, []⟩).memory := by
  rw [MakeChecks.laidMetH_plain _ _ _ (by kernel_rfl)]
  exact laidMet_laidAll _ (by kernel_rfl) (by kernel_rfl)

set_option maxRecDepth 100000 in
theorem lifted (os : Os) (started : os.Started) (H : Type) (enc : TypeId × Value → H) :
    ReturnsInHanded {} Tryz.checked os 3 .any (fun w args => (Rows.fnExactCallCoreSpec.pre enc Tryz.prog Tryz.f3 [] false w args ∧ laidMetH Tryz.prog Rows.fnExactCallCoreRow.laid w) ∧ sizedMet enc Tryz.prog Tryz.f3 (OpenSpec.ofChange Rows.fnExactCallCoreSpec) false w args) (Rows.fnExactCallCoreSpec.post enc Tryz.prog Tryz.f3 false true false false) := by
  refine wrapV (C := Tryz.checked) (X := fun w _ => laidMetH Tryz.prog Rows.fnExactCallCoreRow.laid w) (fun _ _ _ hh h => h.of_heap hh) own started (by kernel_rfl) Tryz.func3
    (ChangeSpec.witness_shaped (enc := enc) (C := Tryz.checked) (os := os) (X := fun w _ => laidMetH Tryz.prog Rows.fnExactCallCoreRow.laid w) false (World.laidAll Tryz.prog os Rows.fnExactCallCoreRow.laid) #[.agg #[.string ByteArray.empty, .bool false, .bool false, .slice none 0 0, .int .i64 0], .agg #[.string ByteArray.empty, .string ByteArray.empty, .int .i64 0, .string ByteArray.empty]] 8 (World.laidAll_os _ _ _) (World.shaped_of_ZipB (by kernel_rfl) (by kernel_rfl)) (by kernel_rfl) (by kernel_rfl) (by kernel_rfl) (door_met os _)) ?_
  intro W base args ds gs before hval0 hW hL hS
  have hval : ∀ (j : Nat) t v, Tryz.f3.params[j]? = some t → args[j]? = some v → Value.okWide Tryz.prog W .any base t v := hval0
  have hW' := hW
  obtain ⟨p, q, hA0, hV, rfl, hfz, hnd⟩ := hW
  have hA : DataW.TrodAll enc Tryz.prog W 0 (fun _ => true) true Tryz.f3.params.toList args.toList ds p := hA0
  rw [Tryz.params3] at hA hval
  obtain ⟨v0, vs0, d0, ds0, p0, q0, hargs, rfl, rfl, h0, r0⟩ := trodAll_cons hA
  obtain ⟨v1, vs1, d1, ds1, p1, q1, rfl, rfl, rfl, h1, r1⟩ := trodAll_cons r0
  obtain ⟨rfl, rfl, rfl⟩ := trodAll_nil r1
  obtain rfl : args = #[v0, v1] := by cases args; simp_all
  obtain ⟨rfl, rfl⟩ := trodVars_none hV
  obtain ⟨a0, hv0⟩ := open_core (hval 0 24 v0 rfl rfl) h0
  obtain ⟨a1, hv1⟩ := open_call (hval 1 26 v1 rfl rfl) h1
  refine (walk W (pow10_of (met_reads hL (by kernel_rfl) (.tail _ (.tail _ (.head _))))) (errsyn_of (met_reads hL (by kernel_rfl) (.tail _ (.tail _ (.tail _ (.tail _ (.tail _ (.head _)))))))) (maxc_of hS) v0 a0 hv0 v1 a1 hv1).mono fun e W' ⟨he, hg⟩ => ?_
  subst he
  exact ⟨_, rfl, law_postV (tb := 4) (by kernel_rfl) (by kernel_rfl) (by kernel_rfl) hW' hg rfl Tryz.underlying4 rfl rfl rfl⟩

theorem over : Rows.FnExactCallCoreSaid :=
  OpenClaim.holds_of_wide 3 Tryz.f3 rfl rfl rfl rfl rfl rfl rfl ⟨rfl, rfl, rfl, rfl, rfl⟩ rfl rfl rfl rfl rfl (by kernel_rfl) Tryz.func3 (by kernel_rfl)
    (of_decide_eq_true (by kernel_rfl)) (by unfold Func.isWrapper; first | (rw [if_pos (by decide +kernel)]; kernel_rfl) | (rw [if_neg (by decide +kernel)]; exact ⟨rfl, rfl⟩))
    (fun os started H enc _ => lifted os started H enc)

/-- The statement: the tied card. -/
theorem proved : Rows.FnExactCallCoreCardSaid :=
  Claim7.holds_tied_plain_at .later [] [.data, .data, .data, .data, .sentinel, .sentinel, .pinned] true (true, "15f444c23c93b2403839749698f01a757c47729f86feb889b0929fa11f9b21ff") true over (fun _ h => by cases h) (by kernel_rfl) (fun _ h => by cases h) fnExactCallCore_row_tie rfl ⟨rfl, rfl⟩ (by kernel_rfl) rfl
    (fun f fn hf hfn => by
      obtain rfl : 3 = f := Option.some.inj ((show Tryz.prog.funcNamed Rows.fnExactCallCoreRow.func = some 3 by kernel_rfl).symm.trans hf)
      obtain rfl : Tryz.f3 = fn := Option.some.inj (Tryz.func3.symm.trans hfn)
      exact ⟨by kernel_rfl, fun j t ht => by
        rw [Tryz.params3] at ht
        have hm : t ∈ [24, 26] := by simpa using Array.mem_of_getElem? ht
        have hall : ([24, 26].all fun u => !Tryz.prog.wantsStandIn u) = true := by kernel_rfl
        exact (show Tryz.prog.wantsStandIn t = false by simpa using List.all_eq_true.1 hall t hm)⟩)
    (by kernel_rfl)
#print axioms proved
end Go.Proofs.YtllmcnmongaahaaGreatDoor.fnExactCallCore
