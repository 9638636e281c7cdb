/- Merged texts of this repo: LibV, NumText, Join, CellText, Core, CopyCore, CallText, ParseNum, DrawNum, SplitsPure, PCallPure, CallMach, CellsBack, Split, Core3, EqReply, OpenCore, OpenCall, MarkP, MachLaws. -/
import Derived.Test.YtllmcnmongaahaaGreatDoorShelf
import Derived.Test.YtllmcnmongaahaaGreatDoorM0
import Derived.Test.YtllmcnmongaahaaGreatDoorRows
import Derived.Lib.ItoaNum
import Derived.Sort.Grow
import Derived.Laws.IdiomStrings
import Derived.Lib.UnsafeStr
import Derived.Lib.Join
import Derived.Deep.QuietTactic
import Derived.BigQuiet
import Derived.Test.YtllmcnmongaahaaGreatDoorCopy
import Derived.Deep.RegionHeld3
import Derived.Test.YtllmcnmongaahaaGreatDoorFace
import Derived.Test.YtllmcnmongaahaaGreatDoorCall
import Derived.Deep.AppendLies
/- What a condition that lists variables of the library says of the world. -/
namespace Go.Proofs.YtllmcnmongaahaaGreatDoor
open Go.ChangeShapes Go.WideShapes Go.ChangeAt Go.RowKit
set_option maxRecDepth 100000
/-- the library's table of powers of ten -/
def Pow10 (w : World) : Prop := Lib.TabIs Tryz.prog w "internal/strconv.uint64pow10" .u64 Lib.pow10Tab
theorem pow10_g : Tryz.prog.globalNamed "internal/strconv.uint64pow10" = some 5 := by kernel_rfl
theorem pow10_t : (Tryz.prog.globals[5]?).map (·.type) = some 175 := by kernel_rfl
theorem pow10_d : (Rows.laid_internal_strconv_uint64pow10 : DataW Unit) = Lib.tabData .u64 Lib.pow10Tab := by kernel_rfl
theorem pow10_of {w : World} (h : VarSays Tryz.prog w "internal/strconv.uint64pow10" Rows.laid_internal_strconv_uint64pow10) : Pow10 w := by
  obtain ⟨g, t, cs, fuel, p, hg, ht, hv, hd⟩ := h
  obtain rfl := Option.some.inj (pow10_g.symm.trans hg)
  obtain rfl := Option.some.inj (pow10_t.symm.trans ht)
  rw [pow10_d] at hd
  unfold Pow10 Lib.TabIs
  rw [hv, ← Lib.cells_of_tab Tryz.underlying175 Tryz.underlying151 (by kernel_rfl) (by kernel_rfl) hd]
theorem Pow10.lt {w : World} (h : Pow10 w) : 5 < w.heap.size := by
  have h1 := h.cell pow10_g 0 (by decide)
  rcases Nat.lt_or_ge 5 w.heap.size with hlt | hge
  · exact hlt
  · simp [World.cell?, Array.getElem?_eq_none hge] at h1
theorem Pow10.below {B : Nat} {w w' : World} (h : Pow10 w) (hb : Below B w w') (hB : 5 < B) : Pow10 w' := by
  have e : w'.var? Tryz.prog "internal/strconv.uint64pow10" = w.var? Tryz.prog "internal/strconv.uint64pow10" := by
    unfold World.var?
    rw [pow10_g]
    simp [hb.block _ hB]
  exact e.trans h
/-- the library's variable of syntax errors holds an error -/
def ErrSyn (w : World) : Prop := ∃ te pe, w.cell? ⟨1, 0, none⟩ = some (.iface te pe)
theorem errsyn_g : Tryz.prog.globalNamed "strconv.ErrSyntax" = some 1 := by kernel_rfl
theorem errsyn_t : (Tryz.prog.globals[1]?).map (·.type) = some 116 := by kernel_rfl
theorem errsyn_of {w : World} (h : VarSays Tryz.prog w "strconv.ErrSyntax" Rows.laid_strconv_ErrSyntax) : ErrSyn w := by
  obtain ⟨g, t, cs, fuel, p, hg, ht, hv, hd⟩ := h
  obtain rfl := Option.some.inj (errsyn_g.symm.trans hg)
  obtain rfl := Option.some.inj (errsyn_t.symm.trans ht)
  obtain ⟨u, v, e⟩ := cs_of_iface Tryz.underlying116 hd
  refine ⟨u, v, ?_⟩
  rw [World.var?_cell errsyn_g hv 0]
  have h1 : cs[0]? = some (.iface u v) := by rw [← Array.getElem?_toList, e]; rfl
  exact h1
theorem ErrSyn.lt {w : World} (h : ErrSyn w) : 1 < w.heap.size := by
  obtain ⟨te, pe, h1⟩ := h
  rcases Nat.lt_or_ge 1 w.heap.size with hlt | hge
  · exact hlt
  · simp [World.cell?, Array.getElem?_eq_none hge] at h1
theorem ErrSyn.below {B : Nat} {w w' : World} (h : ErrSyn w) (hb : Below B w w') (hB : 1 < B) : ErrSyn w' := by
  obtain ⟨te, pe, h1⟩ := h
  exact ⟨te, pe, (hb.cell (p := ⟨1, 0, none⟩) hB).trans h1⟩
/-- the library's limit holds a number -/
def MaxC (w : World) : Prop := ∃ m, w.cell? ⟨0, 0, none⟩ = some (.int .i64 m)
theorem maxc_of {w : World} (h : w.ShapedOpen Tryz.prog) : MaxC w := Tryz.laysM145.s1_3 w h
theorem MaxC.lt {w : World} (h : MaxC w) : 0 < w.heap.size := by
  obtain ⟨m, h1⟩ := h
  rcases Nat.lt_or_ge 0 w.heap.size with hlt | hge
  · exact hlt
  · simp [World.cell?, Array.getElem?_eq_none hge] at h1
theorem MaxC.below {B : Nat} {w w' : World} (h : MaxC w) (hb : Below B w w') (hB : 0 < B) : MaxC w' := by
  obtain ⟨m, h1⟩ := h
  exact ⟨m, (hb.cell (p := ⟨0, 0, none⟩) hB).trans h1⟩
end Go.Proofs.YtllmcnmongaahaaGreatDoor
/- Contracts: numbers as texts. -/
namespace Go.Proofs.YtllmcnmongaahaaGreatDoor
open Go.ChangeShapes Go.WideShapes Go.ChangeAt Go.RowKit
set_option maxRecDepth 100000
theorem wf_range {n : Int} (h : (Lit.int .i64 n).wf = true) : -9223372036854775808 ≤ n ∧ n ≤ 9223372036854775807 := by
  have h1 : IntKind.i64.min = -9223372036854775808 := by decide
  have h2 : IntKind.i64.max = 9223372036854775807 := by decide
  simp only [Lit.wf, h1, h2, Bool.and_eq_true, decide_eq_true_eq] at h
  exact h
theorem below_bytes (w : World) (e : TypeId) (s : ByteArray) : Below w.heap.size w (Lib.bytesWorld w e s) :=
  Lib.below_freeze ((Below.drew (Below.refl _ w)).alloc (Nat.le_refl _) _) (p := ⟨w.heap.size, _, none⟩) (Nat.le_refl _) 1
theorem below_growD (w : World) (k : Nat) (os : Array Obj) : Below w.heap.size w (Sort.grow (w.drewN k) os) :=
  ⟨rfl, rfl, rfl, by simp [Sort.grow], fun g hg => by
    show ((w.drewN k).heap ++ os)[g]? = w.heap[g]?
    rw [Array.getElem?_append_left (by simpa using hg)]; rfl⟩
theorem iFormatNumber_c (n : Int) (w : World) (hT : Pow10 w) (h0 : -9223372036854775808 ≤ n) (h1 : n ≤ 9223372036854775807) :
    Calls Tryz.prog 70 #[.int .i64 n] w fun e w' => e = .returned (.string (Pu.numB n)) ∧ Below w.heap.size w w' := by
  have HT := hide hT
  clear hT
  go_enter Tryz.func70, Tryz.ntmps70
  go_wp2_with fail
  refine (Tryz.strconv_Itoa n h0 h1 _ HT.out).mono ?_; rintro e W1 ⟨rfl, k, os, rfl⟩
  go_wp2
  go_ret
  exact ⟨rfl, below_growD _ _ _⟩
set_option maxHeartbeats 1000000 in
def Pu.dgt (n : Nat) : UInt8 := UInt8.ofNat (48 + n % 10)
theorem digit_conv (n : Nat) (w : World) :
    (convert 55 9 (.slice (some ⟨w.heap.size, 0, none⟩) 1 1)).run Tryz.prog (w.alloc (.cells #[.int .u8 (48 + (n : Int) % 10)] 5)) = .ok (.string ⟨#[Pu.dgt n]⟩) (w.alloc (.cells #[.int .u8 (48 + (n : Int) % 10)] 5)) := by
  have e : (48 + (n : Int) % 10) = ((Pu.dgt n).toNat : Int) := by
    have h1 : (Pu.dgt n).toNat = (48 + n % 10) % 256 := by unfold Pu.dgt; exact UInt8.toNat_ofNat' 
    rw [h1]; omega
  rw [e]
  refine run_convert_bytes_back _ _ _ 5 ⟨w.heap.size, 0, none⟩ 1 [Pu.dgt n] Tryz.underlying55 Tryz.underlying5 Tryz.underlying9 fun j hj => ?_
  obtain rfl : j = 0 := by simpa using hj
  exact cell_of_row _ w.heap.size 0 _ _ (0, 0) (heap_new rfl)
theorem dec_small {n : Nat} (h : n < 10) : (⟨(Lib.decDigits n).toArray⟩ : ByteArray) = ⟨#[Pu.dgt n]⟩ := by
  rw [Lib.decDigits_one h, Pu.dgt, Nat.mod_eq_of_lt h]
theorem dec_more {n : Nat} (h : ¬ n < 10) : (⟨(Lib.decDigits n).toArray⟩ : ByteArray) = ⟨(Lib.decDigits (n / 10)).toArray⟩ ++ ⟨#[Pu.dgt n]⟩ := by
  rw [Lib.decDigits, dif_neg h, Pu.dgt]
  apply ByteArray.ext
  apply Array.toList_inj.1
  simp [ByteArray.data_append]
theorem dec_size {n : Nat} (h : n < 9223372036854775808) : (⟨(Lib.decDigits n).toArray⟩ : ByteArray).size ≤ 20 := by
  have := Pu.itoa_len (n := (n : Int)) (by omega) (by omega)
  rw [Lib.itoa, if_neg (by omega), Int.toNat_natCast] at this
  simpa [ByteArray.size] using this
theorem sNat_c : ∀ (n : Nat) (w : World), n < 9223372036854775808 →
    Calls Tryz.prog 105 #[.int .i64 n] w fun e w' => e = .returned (.string ⟨(Lib.decDigits n).toArray⟩) ∧ Below w.heap.size w w' := by
  intro n
  induction n using Nat.strongRecOn with
  | _ n ih =>
    intro w hn
    have hcv := digit_conv n w
    by_cases h : n < 10
    · have HD := hide (dec_small h)
      clear ih
      go_enter Tryz.func105, Tryz.ntmps105
      go_wp2
      go_ret
      exact ⟨ret_str HD.out.symm, below_alloc (Below.refl _ _) _⟩
    · have hr := ih (n / 10) (by omega)
      have HD := hide (dec_more h)
      have hz := dec_size (n := n / 10) (by omega)
      have hz2 : ¬ 9223372036854775807 < (⟨(Lib.decDigits (n / 10)).toArray⟩ : ByteArray).size + (⟨#[Pu.dgt n]⟩ : ByteArray).size := by
        have : (⟨#[Pu.dgt n]⟩ : ByteArray).size = 1 := rfl
        omega
      clear ih
      go_enter Tryz.func105, Tryz.ntmps105
      go_wp2_with fail
      refine (hr _ (by omega)).mono ?_; rintro e W1 ⟨rfl, b1⟩
      go_wp2
      go_ret
      exact ⟨ret_str HD.out.symm, below_then (below_alloc (Below.refl _ _) _) b1⟩
theorem neg_text {k : Nat} (h : -(k : Int) < 0) : Pu.numB (-(k : Int)) = ⟨#[45]⟩ ++ ⟨(Lib.decDigits k).toArray⟩ := by
  rw [Pu.numB, Lib.itoa, if_pos h, Int.natAbs_neg, Int.natAbs_natCast]
  apply ByteArray.ext
  apply Array.toList_inj.1
  simp [ByteArray.data_append]
theorem sFormatNumber_c (n : Int) (w : World) (h0 : -9223372036854775808 ≤ n) (h1 : n ≤ 9223372036854775807) :
    Calls Tryz.prog 105 #[.int .i64 n] w fun e w' => e = .returned (.string (Pu.numB n)) ∧ Below w.heap.size w w' := by
  by_cases hneg : n < 0
  · by_cases hm : n = -9223372036854775808
    · have HD : Hid (Pu.numB n = ⟨#[45, 57, 50, 50, 51, 51, 55, 50, 48, 51, 54, 56, 53, 52, 55, 55, 53, 56, 48, 56]⟩) := by
        subst hm
        rw [Hid, Pu.numB, Lib.itoa, if_pos (by decide)]
        congr 1
        simp [Lib.decDigits]
      go_enter Tryz.func105, Tryz.ntmps105
      go_wp2
      go_ret
      exact ⟨ret_str HD.out.symm, Below.refl _ _⟩
    · obtain ⟨k, rfl⟩ : ∃ k : Nat, n = -(k : Int) := ⟨n.natAbs, by omega⟩
      have HD := hide (neg_text hneg)
      have hr := sNat_c k
      have hz := dec_size (n := k) (by omega)
      have hz2 : ¬ 9223372036854775807 < (⟨#[45]⟩ : ByteArray).size + (⟨(Lib.decDigits k).toArray⟩ : ByteArray).size := by
        have : (⟨#[45]⟩ : ByteArray).size = 1 := rfl
        omega
      go_enter Tryz.func105, Tryz.ntmps105
      go_wp2_with fail
      refine (hr _ (by omega)).mono ?_; rintro e W1 ⟨rfl, b1⟩
      go_wp2
      go_ret
      exact ⟨ret_str HD.out.symm, b1⟩
  · obtain ⟨k, rfl⟩ := Int.eq_ofNat_of_zero_le (show 0 ≤ n by omega)
    refine (sNat_c k w (by omega)).mono ?_
    rintro e w' ⟨rfl, hb⟩
    refine ⟨ret_str ?_, hb⟩
    rw [Pu.numB, Lib.itoa, if_neg hneg, Int.toNat_natCast]
theorem iParseNumber_c (s : ByteArray) (w : World) (hT : Pow10 w) (hE : ErrSyn w) :
    Calls Tryz.prog 69 #[.string s] w fun e w' => e = .returned (.tuple #[.int .i64 (Pu.pnV s.toList), .bool (Pu.pnB s.toList)]) ∧ Below w.heap.size w w' := by
  by_cases h1 : s.size < 1
  · have HM := hide (Pu.pn_miss (s := s.toList) fun n _ e => by have := (Pu.numK_len n).1; rw [e, lenB] at this; omega)
    clear hT hE
    go_enter Tryz.func69, Tryz.ntmps69
    go_wp2
    go_ret2
    exact ⟨by rw [HM.out.1, HM.out.2]; rfl, Below.refl _ _⟩
  by_cases h3 : 3 < s.size
  · have HM := hide (Pu.pn_miss (s := s.toList) fun n _ e => by have := (Pu.numK_len n).2; rw [e, lenB] at this; omega)
    clear hT hE
    go_enter Tryz.func69, Tryz.ntmps69
    go_wp2
    go_ret2
    exact ⟨by rw [HM.out.1, HM.out.2]; rfl, Below.refl _ _⟩
  have hlt := hT.lt
  have HT := hide hT
  obtain ⟨te, pe, he⟩ := hE
  have HE := hide he
  clear hT he
  rcases ha : Lib.atoi s.data.toList with _ | n
  · have HM := hide (Pu.pn_miss (s := s.toList) fun n hn e => by have := Pu.atoi_K n hn; rw [e, Lib.toList_data, ha] at this; cases this)
    go_enter Tryz.func69, Tryz.ntmps69
    go_wp2_with fail
    refine (Tryz.strconv_Atoi_err s (by omega) ha _ _ HE.out (.inr ⟨te, pe, rfl⟩)).mono ?_; rintro e W1 ⟨N, rfl, _, _, b1⟩
    go_wp2
    go_ret2
    exact ⟨by rw [HM.out.1, HM.out.2]; rfl, b1⟩
  · have hmiss : (∀ h0 : 0 ≤ n, ∀ h1 : n ≤ 999, Lib.itoa n ≠ s.toList) → Pu.pnV s.toList = 0 ∧ Pu.pnB s.toList = false := fun h => Pu.pn_miss (s := s.toList) fun m hm e => by
      have h1 := Pu.atoi_K m hm
      rw [e, Lib.toList_data, ha] at h1
      have h2 : n = m := Option.some.inj h1
      exact h (by omega) (by omega) (by rw [h2, Pu.itoa_K hm]; exact e)
    have HA := hide ha
    clear ha
    rcases hn : Pu.isNum n with _ | _
    · have HM := hide (hmiss fun h0 h1 => by simp [Pu.isNum] at hn; omega)
      clear hmiss
      go_enter Tryz.func69, Tryz.ntmps69
      go_wp2_with fail
      refine (Tryz.strconv_Atoi s n (by omega) HA.out _).mono ?_; rintro e W1 ⟨rfl, t, rfl⟩
      have B1 := below_bytes w 5 t
      generalize Lib.bytesWorld w 5 t = W1 at B1 ⊢
      go_wp2_with (go_at_call 73; refine (isNumber_c _ _).mono ?_; rintro e w' ⟨rfl, rfl⟩; rw [hn])
      go_ret2
      exact ⟨by rw [HM.out.1, HM.out.2]; rfl, B1⟩
    · have hbd : 0 ≤ n ∧ n ≤ 999 := by simpa [Pu.isNum] using hn
      rcases hq : ((Pu.numB n).toList == s.toList) with _ | _
      · have HM := hide (hmiss fun _ _ e => by rw [Pu.numB, Lib.toList_data] at hq; simp [e] at hq)
        clear hmiss
        go_enter Tryz.func69, Tryz.ntmps69
        go_wp2_with fail
        refine (Tryz.strconv_Atoi s n (by omega) HA.out _).mono ?_; rintro e W1 ⟨rfl, t, rfl⟩
        have B1 := below_bytes w 5 t
        generalize Lib.bytesWorld w 5 t = W1 at B1 ⊢
        go_wp2_with (first
          | (go_at_call 73; refine (isNumber_c _ _).mono ?_; rintro e w' ⟨rfl, rfl⟩; rw [hn])
          | (go_at_call 70; refine (iFormatNumber_c _ _ (HT.out.below B1 hlt) (by omega) (by omega)).mono ?_; rintro e W2 ⟨rfl, b2⟩))
        go_ret2
        exact ⟨by rw [HM.out.1, HM.out.2]; rfl, below_then B1 b2⟩
      · have HM := hide (Pu.pn_hit (s := s.toList) hbd.1 hbd.2 (by rw [Pu.numB, Lib.toList_data] at hq; simpa using hq))
        clear hmiss
        go_enter Tryz.func69, Tryz.ntmps69
        go_wp2_with fail
        refine (Tryz.strconv_Atoi s n (by omega) HA.out _).mono ?_; rintro e W1 ⟨rfl, t, rfl⟩
        have B1 := below_bytes w 5 t
        generalize Lib.bytesWorld w 5 t = W1 at B1 ⊢
        go_wp2_with (first
          | (go_at_call 73; refine (isNumber_c _ _).mono ?_; rintro e w' ⟨rfl, rfl⟩; rw [hn])
          | (go_at_call 70; refine (iFormatNumber_c _ _ (HT.out.below B1 hlt) (by omega) (by omega)).mono ?_; rintro e W2 ⟨rfl, b2⟩))
        go_ret2
        exact ⟨by rw [HM.out.1, HM.out.2]; rfl, below_then B1 b2⟩
end Go.Proofs.YtllmcnmongaahaaGreatDoor
/- Contracts: texts joined with a separator. -/
namespace Go.Proofs.YtllmcnmongaahaaGreatDoor
open Go.ChangeShapes Go.WideShapes Go.ChangeAt Go.RowKit
set_option maxRecDepth 100000
/-- the texts behind s, each after the separator but the first -/
def Pu.joinAcc (sep : ByteArray) : Bool → ByteArray → List ByteArray → ByteArray
  | _, s, [] => s
  | b, s, x :: r => Pu.joinAcc sep false ((if b then s else s ++ sep) ++ x) r
theorem Pu.joinAcc_data (sep : ByteArray) (l : List ByteArray) : ∀ s : ByteArray, (Pu.joinAcc sep false s l).data.toList = s.data.toList ++ Lib.joinTail sep.data.toList (l.map (·.data.toList)) := by
  induction l with
  | nil => intro s; simp [Pu.joinAcc, Lib.joinTail]
  | cons x r ih => intro s; rw [Pu.joinAcc, ih]; simp [Lib.joinTail, ByteArray.data_append]
def Pu.joinB (sep : ByteArray) (l : List ByteArray) : ByteArray := Pu.joinAcc sep true ⟨#[]⟩ l
theorem Pu.joinB_lib (sep : ByteArray) (l : List ByteArray) : (⟨(Lib.join (l.map (·.data.toList)) sep.data.toList).toArray⟩ : ByteArray) = Pu.joinB sep l := by
  cases l with
  | nil => rfl
  | cons x r =>
    apply ByteArray.ext
    apply Array.toList_inj.1
    rw [Pu.joinB, Pu.joinAcc, Pu.joinAcc_data, List.map_cons, Lib.join_cons]
    simp [ByteArray.data_append]
theorem Pu.joinLen (sep : ByteArray) (l : List ByteArray) : (Lib.join (l.map (·.data.toList)) sep.data.toList).length ≤ l.length * sep.size + Pu.tot l := by
  cases l with
  | nil => simp [Lib.join_nil]
  | cons x r =>
    have h : ∀ r : List ByteArray, (Lib.joinTail sep.data.toList (r.map (·.data.toList))).length ≤ r.length * sep.size + Pu.tot r := by
      intro r
      induction r with
      | nil => simp [Lib.joinTail]
      | cons y r ih =>
        simp only [Lib.joinTail, List.map_cons, List.flatten_cons, List.length_append, List.length_cons, Nat.add_mul, Pu.tot] at ih ⊢
        have h1 : sep.data.toList.length = sep.size := rfl
        have h2 : y.data.toList.length = y.size := rfl
        omega
    rw [List.map_cons, Lib.join_cons, List.length_append]
    have := h r
    have h2 : x.data.toList.length = x.size := rfl
    simp only [Pu.tot, List.length_cons, Nat.add_mul]
    omega
theorem join_c (v : Value) (l : List ByteArray) (sep : ByteArray) (w : World) (hv : RdStr w v l) (hl : l.length ≤ 1048576) (hs : sep.size ≤ 1048576) (ht : Pu.tot l ≤ 1048576) :
    Calls Tryz.prog 102 #[v, .string sep] w fun e w' => e = .returned (.string (Pu.joinB sep l)) ∧ Below w.heap.size w w' := by
  obtain ⟨A, c, rfl, hlc, hcm, hA⟩ := hv.open_
  cases l with
  | nil =>
    refine (Tryz.strings_Join_none A c sep w).mono ?_
    rintro e w' ⟨rfl, rfl⟩
    exact ⟨rfl, Below.refl _ _⟩
  | cons x r =>
    obtain ⟨g, o, rfl, hg, HC⟩ := hA.at_ (by simp)
    have hm : (x :: r).length * sep.size ≤ 1048576 * 1048576 := Nat.mul_le_mul hl hs
    have hj := Pu.joinLen sep (x :: r)
    refine (Tryz.strings_Join g o c (x :: r) sep w (fun j y hy => ?_) hg (by omega) hlc (by omega)).mono ?_
    · have := HC.out.2 j y hy 0 (.string y) rfl
      simpa using this
    · rintro e w' ⟨rfl, hb⟩
      exact ⟨by rw [Pu.joinB_lib], hb⟩
theorem sJoinWith_c (v : Value) (l : List ByteArray) (sep : ByteArray) (w : World) (hv : RdStr w v l) (hl : l.length ≤ 1048576) (hs : sep.size ≤ 1048576) (ht : Pu.tot l ≤ 1048576) :
    Calls Tryz.prog 115 #[v, .string sep] w fun e w' => e = .returned (.string (Pu.joinB sep l)) ∧ Below w.heap.size w w' := by
  obtain ⟨A, c, rfl, hlc, hcm, hA⟩ := hv.open_
  have HA := hide hA
  have HT : Hid (∀ x ∈ l, x.size ≤ 1048576) := fun x hx => Nat.le_trans (Pu.tot_mem hx) ht
  clear hA hv
  go_enter Tryz.func115, Tryz.ntmps115
  go_wp2
  go_loopw [5, 10] (fun s i wr => ∃ (k : Nat) (t : ByteArray), k ≤ l.length ∧ s = .string t ∧ i = .int .i64 k ∧ t.size ≤ k * 2097152 ∧ Hid (Pu.joinB sep l = Pu.joinAcc sep (k == 0) t (l.drop k)) ∧ Below w.heap.size w wr) (fun s i _ => l.length - (intOf i).toNat)
  case atStart => exact ⟨0, ⟨#[]⟩, by omega, rfl, rfl, by simp [ByteArray.size], rfl, Below.refl _ _⟩
  case round =>
    obtain ⟨k, t, hk, rfl, rfl, htz, HB, hb⟩ := hrel
    by_cases hlt : k < l.length
    · obtain ⟨g, o, rfl, hg, HC⟩ := HA.out.at_ (by omega)
      obtain ⟨x, HX, h0⟩ := str_get HC hb hlt
      have HD := hide (dropL HX)
      have hx : x.size ≤ 1048576 := HT.out x (List.mem_of_getElem? HX.out)
      by_cases hk0 : (0 : Int) < (k : Int)
      · have hz1 : ¬ 9223372036854775807 < t.size + sep.size := by omega
        have hz2 : ¬ 9223372036854775807 < t.size + sep.size + x.size := by omega
        go_wp2
        go_roundw
        case rel => exact ⟨k + 1, _, by omega, rfl, by go_num, by simp only [ByteArray.size_append]; omega, by rw [Hid, HB.out, HD.out, Pu.joinAcc, show (k == 0) = false by simp; omega]; rfl, hb⟩
        case measure => simp [intOf]; omega
      · have hz2 : ¬ 9223372036854775807 < t.size + x.size := by omega
        go_wp2
        go_roundw
        case rel => exact ⟨k + 1, _, by omega, rfl, by go_num, by simp only [ByteArray.size_append]; omega, by rw [Hid, HB.out, HD.out, Pu.joinAcc, show (k == 0) = true by simp; omega]; rfl, hb⟩
        case measure => simp [intOf]; omega
    · have HE := hide (dropEnd (l := l) (k := k) (by omega))
      go_wp2
      go_ret
      exact ⟨ret_str (by rw [HB.out, HE.out, Pu.joinAcc]), hb⟩
theorem iJoinWith_c (v : Value) (l : List ByteArray) (sep : ByteArray) (w : World) (hv : RdStr w v l) (hl : l.length ≤ 1048576) (hs : sep.size ≤ 1048576) (ht : Pu.tot l ≤ 1048576) :
    Calls Tryz.prog 71 #[v, .string sep] w fun e w' => e = .returned (.string (Pu.joinB sep l)) ∧ Below w.heap.size w w' := by
  obtain ⟨A, c, rfl, _⟩ := hv.open_
  have HV := hide hv
  clear hv
  go_enter Tryz.func71, Tryz.ntmps71
  go_wp2_with fail
  refine (join_c _ _ _ _ HV.out hl hs ht).mono ?_; rintro e W1 ⟨rfl, b1⟩
  go_wp2
  go_ret
  exact ⟨rfl, b1⟩
end Go.Proofs.YtllmcnmongaahaaGreatDoor
/- Contracts: cells as texts. -/
namespace Go.Proofs.YtllmcnmongaahaaGreatDoor
open Go.ChangeShapes Go.WideShapes Go.ChangeAt Go.RowKit
set_option maxRecDepth 100000
theorem Pu.joinB_size' (sep : ByteArray) (l : List ByteArray) : (Pu.joinB sep l).size ≤ l.length * sep.size + Pu.tot l := by
  rw [← Pu.joinB_lib]
  exact Nat.le_trans (Nat.le_of_eq (by simp [ByteArray.size])) (Pu.joinLen sep l)
theorem one_txt' (n : ByteArray) : ∀ u ∈ [Value.string n], u.oneCell' = true := by simp [Value.oneCell']
section
variable {P : Program}
/-- 'append(out, x)' at a step of a region that draws its order: x lies in a new block of its own; out is the call's own. -/
theorem step_push {α : Type} {ops : Array Oper} {o : Oper} {a : Act} {K : Act → World → Prop} {Q : Exit → Act → World → Prop} {E : Prop} {wr : World} (hgd : o.guard = none) (s x : Operand) (t : TypeId)
    (ho : o.op = .call { callee := .builtin .append, args := #[s, x], argTypes := #[t, t] }) (base : Nat) (e : TypeId) (i : TypeInfo) (z : Value) (size bytes : Nat)
    (ht : P.underlying t = some (.slice e)) (hi : P.info? e = some i) (hz : i.zero = some z) (hsize : i.size = size) (hby : i.bytes = bytes) (hzs : z.cells.size = size) (hsz : 0 < size)
    (en : α → List Value) (v : Value) (l : List α) (y : α) (hs : a.eval s = v) (hown : OwnL wr base e size en v l) (hx : a.eval x = .slice (some ⟨wr.heap.size, 0, none⟩) 1 1)
    (hlen : (en y).length = size) (hone : ∀ u ∈ en y, u.oneCell' = true) (hb' : base ≤ wr.heap.size) (hn : l.length < 1099511627776) (hbytes : bytes ≤ 64)
    (h : ∀ v' w', OwnL w' base e size en v' (l ++ [y]) → (wr.alloc (.cells (en y).toArray e)).grownBy w' v.ownBlock → K (a.put o.dst v') w') :
    if Region.wanted o (yielded ops a.tmps) = true then Oper.wp P o a (wr.alloc (.cells (en y).toArray e)) K Q else E := by
  have hw : Region.wanted o (yielded ops a.tmps) = true := by simp [Region.wanted, hgd]
  rw [if_pos hw]
  have hown0 : (wr.alloc (.cells (en y).toArray e)).ownsRow base e size v l.length (l.flatMap en) := World.ownsRow.alloc hown _
  have hbt : (l.length + 1) * bytes ≤ 140737488355328 := by
    calc (l.length + 1) * bytes ≤ 1099511627776 * 64 := Nat.mul_le_mul (by omega) hbytes
      _ ≤ 140737488355328 := by decide
  obtain ⟨v', w', hrun, h2, h3, _, _⟩ := Go.run_append_own_at (P := P) (wr.alloc (.cells (en y).toArray e)) base t o.type e i z size bytes ht hi hz hsize hby hzs hsz v l.length (l.flatMap en) hown0 ⟨wr.heap.size, 0, none⟩ 1 1 (en y) (by omega) (by
    intro j u hj
    have e1 : (⟨wr.heap.size, 0, none⟩ : Addr).add j = ⟨wr.heap.size, j, none⟩ := by unfold Addr.add; split <;> simp_all
    rw [e1, cell_of_row _ wr.heap.size j (en y).toArray e (0, 0) (heap_alloc_new wr _)]
    simpa using hj) hone (by unfold maxLen; omega) hbt (by simp; omega)
  unfold Oper.wp execOp
  simp only [ho, resolve, invoke, builtin, Sem.run_bind, Sem.run_pure, Result.andThen_ok, List.map_toArray, List.map_cons, List.map_nil, hs, hx, hrun]
  exact h v' w' (OwnL.snoc h2) h3
end
def Pu.cellT (c : Pu.CellD) : ByteArray := c.key ++ ⟨#[61]⟩ ++ Pu.numB c.val
def Pu.cellsT (l : List Pu.CellD) : ByteArray := if Pu.cellsB l then (if l.length = 0 then ⟨#[45]⟩ else Pu.joinB ⟨#[44]⟩ (l.map Pu.cellT)) else ⟨#[]⟩
theorem Pu.cellsFrom_all : ∀ {l : List Pu.CellD} {p : Option ByteArray}, Pu.cellsFrom p l = true → ∀ c ∈ l, Pu.nameL c.key.toList = true ∧ Pu.isNum c.val = true
  | [], _, _, _, h => by cases h
  | x :: r, p, h, c, hc => by
    simp only [Pu.cellsFrom, Bool.and_eq_true] at h
    rcases List.mem_cons.1 hc with rfl | hc
    · exact ⟨h.1.1.1, h.1.1.2⟩
    · exact Pu.cellsFrom_all h.2 c hc
theorem Pu.cellsB_all {l : List Pu.CellD} (h : Pu.cellsB l = true) : l.length ≤ 4 ∧ ∀ c ∈ l, c.key.size ≤ 8 ∧ 0 ≤ c.val ∧ c.val ≤ 999 := by
  simp only [Pu.cellsB, Bool.and_eq_true, decide_eq_true_eq] at h
  refine ⟨h.1, fun c hc => ?_⟩
  obtain ⟨h1, h2⟩ := Pu.cellsFrom_all h.2 c hc
  simp only [Pu.nameL, Bool.and_eq_true, decide_eq_true_eq, lenB] at h1
  simp only [Pu.isNum, Bool.and_eq_true, decide_eq_true_eq] at h2
  exact ⟨h1.1.2, h2.1, h2.2⟩
theorem Pu.numB_small {n : Int} (h0 : 0 ≤ n) (h1 : n ≤ 999) : (Pu.numB n).size ≤ 3 := by
  have := Pu.itoa_len_small h0 h1
  have e : (Pu.numB n).size = (Lib.itoa n).length := rfl
  omega
theorem Pu.cellT_size {c : Pu.CellD} (h : c.key.size ≤ 8 ∧ 0 ≤ c.val ∧ c.val ≤ 999) : (Pu.cellT c).size ≤ 12 := by
  have := Pu.numB_small h.2.1 h.2.2
  have e : (⟨#[61]⟩ : ByteArray).size = 1 := rfl
  rw [Pu.cellT, ByteArray.size_append, ByteArray.size_append, e]
  omega
theorem Pu.cellsT_tot : ∀ {l : List Pu.CellD}, (∀ c ∈ l, c.key.size ≤ 8 ∧ 0 ≤ c.val ∧ c.val ≤ 999) → Pu.tot (l.map Pu.cellT) ≤ 12 * l.length
  | [], _ => by simp [Pu.tot]
  | x :: r, h => by
    have h1 := Pu.cellT_size (h x (by simp))
    have h2 := Pu.cellsT_tot (l := r) fun c hc => h c (by simp [hc])
    simp only [List.map_cons, Pu.tot, List.length_cons]
    omega
theorem Pu.cellsT_size (l : List Pu.CellD) : (Pu.cellsT l).size ≤ 64 := by
  unfold Pu.cellsT
  split
  · rename_i h
    obtain ⟨h1, h2⟩ := Pu.cellsB_all h
    split
    · decide
    · have h3 := Pu.joinB_size' ⟨#[44]⟩ (l.map Pu.cellT)
      have h4 := Pu.cellsT_tot h2
      have e : (⟨#[44]⟩ : ByteArray).size = 1 := rfl
      rw [e, List.length_map] at h3
      omega
  · decide
set_option maxHeartbeats 2000000 in
theorem iFormatCells_c (v : Value) (l : List Pu.CellD) (w : World) (hT : Pow10 w) (hv : RdCells w v l) :
    Calls Tryz.prog 33 #[v] w fun e w' => e = .returned (.string (Pu.cellsT l)) ∧ Below w.heap.size w w' := by
  obtain ⟨i0, hi, hz0, hz1, hz2⟩ := info_parts info_str
  have hlt0 := hT.lt
  have HT := hide hT
  have HV := hide hv
  obtain ⟨A, c, rfl, hlc, hcm, hA⟩ := hv.1.open_
  have HA := hide hA
  clear hA hv hT
  rcases hB : Pu.cellsB l with _ | _
  · have HF : Hid (Pu.cellsT l = ⟨#[]⟩) := by rw [Hid, Pu.cellsT, hB]; rfl
    go_enter Tryz.func33, Tryz.ntmps33
    go_wp2_with fail
    refine (iIsCells_c _ _ _ HV.out).mono ?_; rintro e w1 ⟨rfl, b1⟩
    rw [hB]
    go_wp2
    go_ret
    exact ⟨ret_str HF.out.symm, b1⟩
  by_cases h0 : l.length = 0
  · have HF : Hid (Pu.cellsT l = ⟨#[45]⟩) := by rw [Hid, Pu.cellsT, hB, if_pos rfl, if_pos h0]
    obtain rfl : l = [] := List.eq_nil_of_length_eq_zero h0
    have HV0 := hide (show RdCells w (.slice A 0 c) [] from HV.out)
    clear h0 HV
    go_enter Tryz.func33, Tryz.ntmps33
    go_wp2_with fail
    refine (iIsCells_c _ _ _ HV0.out).mono ?_; rintro e w1 ⟨rfl, b1⟩
    rw [hB]
    go_wp2
    go_ret
    exact ⟨ret_str HF.out.symm, b1⟩
  have HF : Hid (Pu.cellsT l = Pu.joinB ⟨#[44]⟩ (l.map Pu.cellT)) := by rw [Hid, Pu.cellsT, hB, if_pos rfl, if_neg h0]
  obtain ⟨hl4, hall⟩ := Pu.cellsB_all hB
  have HALL := hide hall
  have hz : ((l.length : Int) == 0) = false := beq_eq_false_iff_ne.2 (by omega)
  clear hall h0
  go_enter Tryz.func33, Tryz.ntmps33
  go_wp2_with fail
  refine (iIsCells_c _ _ _ HV.out).mono ?_; rintro e w1 ⟨rfl, b1⟩
  rw [hB]
  have HB1 := hide b1
  clear b1
  go_wp2
  go_loopw [3, 14] (fun v i wr => ∃ k : Nat, k ≤ l.length ∧ i = .int .i64 k ∧ OwnL wr w1.heap.size 9 1 strEn v ((l.take k).map Pu.cellT) ∧ Below w1.heap.size w1 wr) (fun _ i _ => l.length - (intOf i).toNat)
  case atStart => exact ⟨0, by omega, rfl, OwnL.nil _ _ _ _ _, Below.refl _ _⟩
  case round =>
    obtain ⟨k, hk, rfl, hown, hb⟩ := hrel
    by_cases hlt : k < l.length
    · obtain ⟨g, o, rfl, hg, HC⟩ := HA.out.at_ (by omega)
      have hbw : Below w.heap.size w wr := HB1.out.trans (hb.mono HB1.out.size)
      obtain ⟨x, HX, c0, c1⟩ := cell_get HC hbw hlt
      obtain ⟨hx8, hx0, hx9⟩ := HALL.out x (List.mem_of_getElem? HX.out)
      have hn3 := Pu.numB_small hx0 hx9
      have hz1' : ¬ 9223372036854775807 < x.key.size + 1 := by omega
      have hz2' : ¬ 9223372036854775807 < x.key.size + 1 + (Pu.numB x.val).size := by omega
      obtain ⟨WA, hWA⟩ : ∃ WA, Hid (wr.alloc (.cells #[.string x.key, .int .i64 x.val] 63 : Obj) = WA) := ⟨_, rfl⟩
      have bA : Below wr.heap.size wr WA := by rw [← hWA.out]; exact below_alloc (Below.refl _ _) _
      have hsA : WA.heap.size = wr.heap.size + 1 := by rw [← hWA.out]; simp
      have Y0 := hide (show WA.heap[wr.heap.size]? = some (.cells #[.string x.key, .int .i64 x.val] 63 : Obj) by rw [← hWA.out]; exact heap_new rfl)
      have y0 : WA.cell? ⟨wr.heap.size, 0, none⟩ = some (.string x.key) := cell_of_row WA _ 0 _ _ (0, 0) Y0.out
      have y1 : WA.cell? ⟨wr.heap.size, 1, none⟩ = some (.int .i64 x.val) := cell_of_row WA _ 1 _ _ (0, 0) Y0.out
      have hLA : wr.heap.size < WA.heap.size := by omega
      have hTA := hide ((HT.out.below hbw hlt0).below bA (Nat.lt_of_lt_of_le hlt0 hbw.size))
      have hltA : 5 < WA.heap.size := by have := hbw.size; omega
      have HOWN := hide (OwnL.below hown bA (Nat.le_refl _))
      have HNE := hide (fun g (hg : _ = some g) => (OwnL.lt hown (g := g) hg).2)
      have hlen : ((l.take k).map Pu.cellT).length < 1099511627776 := by simp; omega
      have hbs : w1.heap.size ≤ wr.heap.size := hb.size
      have HBW := hide hb
      clear hown hb hbw
      go_wp2_with fail
      rw [hWA.out]
      have K0 : Below WA.heap.size WA WA := Below.refl _ _
      go_region_held3 (fun w' => w'.cell? ⟨wr.heap.size, 0, none⟩ = some (.string x.key) ∧ w'.cell? ⟨wr.heap.size, 1, none⟩ = some (.int .i64 x.val)) (go_keep)
        (first
          | (go_at_call 70;
              refine (iFormatNumber_c x.val _ (hTA.out.below (by first | exact K0 | exact K0.drew) hltA) (by omega) (by omega)).mono ?_;
              rintro e WX ⟨rfl, bX⟩;
              have KWX : Below WA.heap.size WA WX := below_then (by first | exact K0 | exact K0.drew) bX;
              have KX : ∀ k : Nat, WX.cell? ⟨wr.heap.size, k, none⟩ = _ := fun k => KWX.cell hLA;
              have hLX : wr.heap.size < WX.heap.size := Nat.lt_of_lt_of_le hLA KWX.size)
          | (refine step_push rfl _ _ 92 (by exact rfl) w1.heap.size 9 i0 (.string ByteArray.empty) 1 16 Tryz.underlying92 hi hz0 hz1 hz2 rfl (by decide) strEn _ _ (Pu.cellT x) (by exact rfl) (OwnL.below HOWN.out KWX (Nat.le_refl _)) (by exact rfl) rfl (one_txt' _) (Nat.le_trans hbs (Nat.le_of_lt hLX)) hlen (by decide) ?_; intro vY WY oY gY;
              have KY : ∀ k : Nat, WY.cell? ⟨wr.heap.size, k, none⟩ = _ := fun k => World.cell?_of_block (gY.block wr.heap.size (by simp; omega) (fun e => absurd (HNE.out _ e.symm) (Nat.lt_irrefl _)))))
      have hb3 : Below w1.heap.size w1 WY := (below_alloc (HBW.out.trans ((bA.trans (KWX.mono (Nat.le_of_lt hLA))).mono hbs)) _).grown gY (by simp; omega) (fun j hj => (OwnL.lt HOWN.out hj).1)
      clear KY gY bX KX
      go_wp2
      go_roundw
      case rel => exact ⟨k + 1, by omega, by go_num, by rw [List.take_add_one, HX.out, List.map_append]; exact oY, hb3⟩
      case measure => simp [intOf]; omega
    · obtain rfl : k = l.length := by omega
      rw [List.take_length] at hown
      have htot := Pu.cellsT_tot HALL.out
      go_wp2_with fail
      refine (iJoinWith_c _ _ _ _ (hown.rd (fun _ => rfl)) (by rw [List.length_map]; omega) (by decide) (by omega)).mono ?_; rintro e w2 ⟨rfl, b2⟩
      go_wp2
      go_ret
      exact ⟨ret_str HF.out.symm, below_then (HB1.out.trans (hb.mono HB1.out.size)) b2⟩
set_option maxHeartbeats 2000000 in
theorem sFormatCells_c (v : Value) (l : List Pu.CellD) (w : World) (hv : RdCells w v l) :
    Calls Tryz.prog 88 #[v] w fun e w' => e = .returned (.string (Pu.cellsT l)) ∧ Below w.heap.size w w' := by
  obtain ⟨i0, hi, hz0, hz1, hz2⟩ := info_parts info_str
  have HV := hide hv
  obtain ⟨A, c, rfl, hlc, hcm, hA⟩ := hv.1.open_
  have HA := hide hA
  clear hA hv
  have hbm : Below w.heap.size w (w.alloc (.cells #[] 9 : Obj)) := below_alloc (Below.refl _ _) _
  have HVm := hide (RdCells.below HV.out hbm)
  rcases hB : Pu.cellsB l with _ | _
  · have HF : Hid (Pu.cellsT l = ⟨#[]⟩) := by rw [Hid, Pu.cellsT, hB]; rfl
    go_enter Tryz.func88, Tryz.ntmps88
    go_wp2_with fail
    refine (sIsCells_c _ _ _ HVm.out).mono ?_; rintro e w1 ⟨rfl, b1⟩
    rw [hB]
    go_wp2
    go_ret
    exact ⟨ret_str HF.out.symm, below_then hbm b1⟩
  have HF0 : Hid (l.length = 0 → Pu.cellsT l = ⟨#[45]⟩) := fun h => by rw [Pu.cellsT, hB, if_pos rfl, if_pos h]
  have HF : Hid (¬ l.length = 0 → Pu.cellsT l = Pu.joinB ⟨#[44]⟩ (l.map Pu.cellT)) := fun h => by rw [Pu.cellsT, hB, if_pos rfl, if_neg h]
  obtain ⟨hl4, hall⟩ := Pu.cellsB_all hB
  have HALL := hide hall
  clear hall
  go_enter Tryz.func88, Tryz.ntmps88
  go_wp2_with fail
  refine (sIsCells_c _ _ _ HVm.out).mono ?_; rintro e w1 ⟨rfl, b1⟩
  rw [hB]
  have hown0 : OwnL (w.alloc (.cells #[] 9 : Obj)) w.heap.size 9 1 strEn (.slice (some ⟨w.heap.size, 0, none⟩) 0 0) ([] : List ByteArray) := World.ownsRow_made w #[] 0 (Nat.le_refl _) (Nat.zero_le _) rfl
  have HOWN0 := hide (OwnL.below hown0 b1 (Nat.le_refl _))
  have HB1 := hide (below_then hbm b1)
  have hsz1 : w.heap.size < w1.heap.size := by have := b1.size; simp at this; omega
  clear b1 hown0 hbm
  go_wp2
  go_loopw [3, 12] (fun v i wr => ∃ k : Nat, k ≤ l.length ∧ i = .int .i64 k ∧ OwnL wr w.heap.size 9 1 strEn v ((l.take k).map Pu.cellT) ∧ Below w.heap.size w wr) (fun _ i _ => l.length - (intOf i).toNat)
  case atStart => exact ⟨0, by omega, rfl, HOWN0.out, HB1.out⟩
  case round =>
    obtain ⟨k, hk, rfl, hown, hb⟩ := hrel
    by_cases hlt : k < l.length
    · obtain ⟨g, o, rfl, hg, HC⟩ := HA.out.at_ (by omega)
      have hbw : Below w.heap.size w wr := hb
      obtain ⟨x, HX, c0, c1⟩ := cell_get HC hbw hlt
      obtain ⟨hx8, hx0, hx9⟩ := HALL.out x (List.mem_of_getElem? HX.out)
      have hn3 := Pu.numB_small hx0 hx9
      have hz1' : ¬ 9223372036854775807 < x.key.size + 1 := by omega
      have hz2' : ¬ 9223372036854775807 < x.key.size + 1 + (Pu.numB x.val).size := by omega
      obtain ⟨WA, hWA⟩ : ∃ WA, Hid (wr.alloc (.cells #[.string x.key, .int .i64 x.val] 63 : Obj) = WA) := ⟨_, rfl⟩
      have bA : Below wr.heap.size wr WA := by rw [← hWA.out]; exact below_alloc (Below.refl _ _) _
      have hsA : WA.heap.size = wr.heap.size + 1 := by rw [← hWA.out]; simp
      have Y0 := hide (show WA.heap[wr.heap.size]? = some (.cells #[.string x.key, .int .i64 x.val] 63 : Obj) by rw [← hWA.out]; exact heap_new rfl)
      have y0 : WA.cell? ⟨wr.heap.size, 0, none⟩ = some (.string x.key) := cell_of_row WA _ 0 _ _ (0, 0) Y0.out
      have y1 : WA.cell? ⟨wr.heap.size, 1, none⟩ = some (.int .i64 x.val) := cell_of_row WA _ 1 _ _ (0, 0) Y0.out
      have hLA : wr.heap.size < WA.heap.size := by omega
      have HOWN := hide (OwnL.below hown bA (Nat.le_refl _))
      have HNE := hide (fun g (hg : _ = some g) => (OwnL.lt hown (g := g) hg).2)
      have hlen : ((l.take k).map Pu.cellT).length < 1099511627776 := by simp; omega
      have hbs : w.heap.size ≤ wr.heap.size := hb.size
      have HBW := hide hb
      clear hown hb
      go_wp2_with fail
      rw [hWA.out]
      have K0 : Below WA.heap.size WA WA := Below.refl _ _
      go_region_held3 (fun w' => w'.cell? ⟨wr.heap.size, 0, none⟩ = some (.string x.key) ∧ w'.cell? ⟨wr.heap.size, 1, none⟩ = some (.int .i64 x.val)) (go_keep)
        (first
          | (go_at_call 105;
              refine (sFormatNumber_c x.val _ (by omega) (by omega)).mono ?_;
              rintro e WX ⟨rfl, bX⟩;
              have KWX : Below WA.heap.size WA WX := below_then (by first | exact K0 | exact K0.drew) bX;
              have KX : ∀ k : Nat, WX.cell? ⟨wr.heap.size, k, none⟩ = _ := fun k => KWX.cell hLA;
              have hLX : wr.heap.size < WX.heap.size := Nat.lt_of_lt_of_le hLA KWX.size)
          | (refine step_push rfl _ _ 92 (by exact rfl) w.heap.size 9 i0 (.string ByteArray.empty) 1 16 Tryz.underlying92 hi hz0 hz1 hz2 rfl (by decide) strEn _ _ (Pu.cellT x) (by exact rfl) (OwnL.below HOWN.out KWX (Nat.le_refl _)) (by exact rfl) rfl (one_txt' _) (Nat.le_trans hbs (Nat.le_of_lt hLX)) hlen (by decide) ?_; intro vY WY oY gY;
              have KY : ∀ k : Nat, WY.cell? ⟨wr.heap.size, k, none⟩ = _ := fun k => World.cell?_of_block (gY.block wr.heap.size (by simp; omega) (fun e => absurd (HNE.out _ e.symm) (Nat.lt_irrefl _)))))
      have hb3 : Below w.heap.size w WY := (below_alloc (HBW.out.trans ((bA.trans (KWX.mono (Nat.le_of_lt hLA))).mono hbs)) _).grown gY (by simp; omega) (fun j hj => (OwnL.lt HOWN.out hj).1)
      clear KY gY bX KX
      go_wp2
      go_roundw
      case rel => exact ⟨k + 1, by omega, by go_num, by rw [List.take_add_one, HX.out, List.map_append]; exact oY, hb3⟩
      case measure => simp [intOf]; omega
    · obtain rfl : k = l.length := by omega
      rw [List.take_length] at hown
      have htot := Pu.cellsT_tot HALL.out
      have hr : RdStr wr _ _ := hown.rd (fun _ => rfl)
      obtain ⟨A1, c1, rfl, _, _, _⟩ := hr.open_
      rw [List.length_map] at hr
      have HR := hide hr
      clear hr
      simp only [List.length_map]
      by_cases h0 : l.length = 0
      · have HX := hide (HF0.out h0)
        go_wp2
        go_ret
        exact ⟨ret_str HX.out.symm, hb⟩
      · have HX := hide (HF.out h0)
        go_wp2_with fail
        refine (sJoinWith_c _ _ _ _ HR.out (by rw [List.length_map]; omega) (by decide) (by omega)).mono ?_; rintro e w2 ⟨rfl, b2⟩
        go_wp2
        go_ret
        exact ⟨ret_str HX.out.symm, below_then hb b2⟩
end Go.Proofs.YtllmcnmongaahaaGreatDoor
/- Contracts: cores. -/
namespace Go.Proofs.YtllmcnmongaahaaGreatDoor
open Go.ChangeShapes Go.WideShapes Go.ChangeAt Go.RowKit
set_option maxRecDepth 100000
def coreV (p : Pu.CoreD) (s : Value) : Value := .agg #[.string p.kind, .bool p.on, .bool p.broken, s, .int .i64 p.count]
def CoreD.wf (p : Pu.CoreD) : Prop := p.kind.size ≤ maxLen ∧ (Lit.int .i64 p.count).wf = true
def RdCore (w : World) (v : Value) (p : Pu.CoreD) : Prop := CoreD.wf p ∧ ∃ s, v = coreV p s ∧ RdCells w s p.cells
theorem szCore_c (p : Pu.CoreD) (s : Value) (left : Int) (w : World) (hw : CoreD.wf p) (hs : RdCells w s p.cells) (h0 : 0 ≤ left) (h1 : left ≤ 1048576) :
    Calls Tryz.prog 11 #[coreV p s, .int .i64 left] w fun e w' => e = .returned (.int .i64 (Pu.szCore p left)) ∧ Below w.heap.size w w' := by
  obtain ⟨hk, _⟩ := hw
  unfold maxLen at hk
  unfold coreV
  by_cases hkl : (p.kind.size : Int) ≤ left
  · go_enter Tryz.func11, Tryz.ntmps11
    go_wp2_with fail
    refine (szCellS_c _ _ _ _ (RdCells.below hs (below_alloc (Below.refl _ _) _)) (by omega) (by omega)).mono ?_; rintro e w1 ⟨rfl, hb1⟩
    have HZ : Hid (Pu.szStr (p.cells.map (·.key)) (left - p.kind.size) = Pu.szCore p left) := by
      rw [Hid, Pu.szStr, Pu.szCore, List.length_map]
      by_cases h : (p.cells.length + Pu.tot (p.cells.map (·.key)) : Int) ≤ left - p.kind.size
      · rw [if_pos h, if_pos (by omega)]; omega
      · rw [if_neg h, if_neg (by omega)]
    rw [HZ.out]
    by_cases hq : Pu.szCore p left < 0
    · have HQ : Hid (Pu.szCore p left = -1) := by
        rw [Hid]
        have h2 := hq
        unfold Pu.szCore at h2 ⊢
        split at h2
        · omega
        · rw [if_neg (by assumption)]
      go_wp2
      go_ret
      exact ⟨ret_int HQ.out.symm, (below_alloc (Below.refl _ _) _).trans (hb1.mono (by simp))⟩
    · go_wp2
      go_ret
      exact ⟨rfl, (below_alloc (Below.refl _ _) _).trans (hb1.mono (by simp))⟩
  · go_enter Tryz.func11, Tryz.ntmps11
    go_wp2_with fail
    go_ret
    exact ⟨ret_int (by rw [Pu.szCore, if_neg (by omega)]), below_alloc (Below.refl _ _) _⟩
set_option maxHeartbeats 400000 in
theorem toCore_c (p : Pu.CoreD) (s : Value) (w : World) (hs : RdL w 2 cellEn s p.cells) (hl : p.cells.length ≤ 1048576) :
    Calls Tryz.prog 14 #[coreV p s] w fun e w' => ∃ s', e = .returned (coreV p s') ∧ OwnL w' w.heap.size 63 2 cellEn s' p.cells ∧ Below w.heap.size w w' := by
  unfold coreV
  go_enter Tryz.func14, Tryz.ntmps14
  go_wp2_with fail
  refine (toCellS_c _ _ _ (RdL.below hs (below_alloc (below_alloc (below_alloc (Below.refl _ _) _) _) _) (Nat.le_refl _)) hl).mono ?_; rintro e w1 ⟨s', rfl, ho, hb1⟩
  obtain ⟨A', c', rfl⟩ := ho.shape
  obtain ⟨a0, a1, a2, a3, a4, af⟩ := five_cells ((hb1.block (w.heap.size + 1 + 1) (by simp)).trans (heap_new (by simp)))
  obtain ⟨b0, b1, b2, b3, b4, bf⟩ := five_cells ((hb1.block w.heap.size (by simp; omega)).trans (heap_old (by simp; omega) (heap_old (by simp) (heap_new rfl))))
  obtain ⟨c0, c1, c2, c3, c4, cf⟩ := five_cells ((hb1.block (w.heap.size + 1) (by simp)).trans (heap_old (by simp) (heap_new (by simp))))
  have hs1 : w.heap.size + 1 + 1 < w1.heap.size := by have := hb1.size; simp at this; omega
  have HO := hide ho
  have HB : Below w.heap.size w w1 := (below_alloc (below_alloc (below_alloc (Below.refl _ _) _) _) _).trans (hb1.mono (by simp; omega))
  clear ho hb1
  go_wp2_with fail
  have HB2 := ((((((HB.setCell (p := ⟨w.heap.size + 1 + 1, 3, none⟩) (by simp <;> omega) (Value.slice A' p.cells.length c')).setCell (p := ⟨w.heap.size + 1 + 1, 4, none⟩) (by simp <;> omega) (Value.int .i64 p.count)).setCell (p := ⟨w.heap.size + 1, 0, none⟩) (by simp) (Value.string p.kind)).setCell (p := ⟨w.heap.size + 1, 1, none⟩) (by simp) (Value.bool p.on)).setCell (p := ⟨w.heap.size + 1, 2, none⟩) (by simp) (Value.bool p.broken)).setCell (p := ⟨w.heap.size + 1, 3, none⟩) (by simp) (Value.slice A' p.cells.length c')).setCell (p := ⟨w.heap.size + 1, 4, none⟩) (by simp) (Value.int .i64 p.count)
  refine bodyPost_ret (v := .agg #[.string p.kind, .bool p.on, .bool p.broken, .slice A' p.cells.length c', .int .i64 p.count]) (by simp [results, Tryz.results14, go_sem, c0, c1, c2, c3, c4]) rfl ⟨_, rfl, ?_, HB2⟩
  refine OwnL.mono (b' := w.heap.size) (base := w.heap.size + 1 + 1 + 1) ?_ (by omega)
  have HO' := HO.out
  simp at HO'
  iterate 7 refine OwnL.set ?_ (by simp <;> omega) _
  exact HO'
end Go.Proofs.YtllmcnmongaahaaGreatDoor
/- Contracts: copies of cores (as in CopyPart.tpl, for a seat that has no parts). -/
namespace Go.Proofs.YtllmcnmongaahaaGreatDoor
open Go.ChangeShapes Go.WideShapes Go.ChangeAt Go.RowKit
set_option maxRecDepth 100000
/-- a new row that the call laid whole -/
theorem own_made {α : Type} {w : World} {e : TypeId} {size : Nat} {en : α → List Value} (l : List α) {n : Nat} (hn : n = l.length) (hs : ∀ x, (en x).length = size) (hm : n ≤ maxLen) :
    OwnL (w.alloc (.cells (l.flatMap en).toArray e)) w.heap.size e size en (.slice (some ⟨w.heap.size, 0, none⟩) n n) l := by
  subst hn
  have hfl := flat_len hs l
  refine ⟨hfl, .inr ⟨w.heap.size, l.length, (l.flatMap en).toArray, rfl, Nat.le_refl _, heap_alloc_new w _, Nat.le_refl _, hm, by simpa using hfl, ?_⟩⟩
  rw [← hfl]
  exact List.take_length
set_option maxHeartbeats 1000000 in
theorem iCopyCore_c (p : Pu.CoreD) (s : Value) (w : World) (hs : RdL w 2 cellEn s p.cells) (hl : p.cells.length ≤ 16777216) :
    Calls Tryz.prog 58 #[coreV p s] w fun e w' => ∃ s', e = .returned (coreV p s') ∧ OwnL w' w.heap.size 63 2 cellEn s' p.cells ∧ Below w.heap.size w w' := by
  obtain ⟨i0, hi, hz0, hz1, hz2⟩ := info_parts info_cell
  have HB : Below w.heap.size w ((w.alloc (.cells #[.string p.kind, .bool p.on, .bool p.broken, s, .int .i64 p.count] 31 : Obj)).alloc (.cells #[.string ⟨#[]⟩, .bool false, .bool false, .slice none 0 0, .int .i64 0] 31 : Obj)) := below_alloc (below_alloc (Below.refl _ _) _) _
  have HH := hide HB
  have hr := RdL.below hs HB (Nat.le_refl _)
  have hown : OwnL ((w.alloc (.cells #[.string p.kind, .bool p.on, .bool p.broken, s, .int .i64 p.count] 31 : Obj)).alloc (.cells #[.string ⟨#[]⟩, .bool false, .bool false, .slice none 0 0, .int .i64 0] 31 : Obj)) (w.heap.size + 1 + 1) 63 2 cellEn (.slice none 0 0) [] := OwnL.nil _ _ _ _ _
  have hbz : w.heap.size + 1 + 1 ≤ (((w.alloc (.cells #[.string p.kind, .bool p.on, .bool p.broken, s, .int .i64 p.count] 31 : Obj)).alloc (.cells #[.string ⟨#[]⟩, .bool false, .bool false, .slice none 0 0, .int .i64 0] 31 : Obj))).heap.size := by simp
  have y0 : (((w.alloc (.cells #[.string p.kind, .bool p.on, .bool p.broken, s, .int .i64 p.count] 31 : Obj)).alloc (.cells #[.string ⟨#[]⟩, .bool false, .bool false, .slice none 0 0, .int .i64 0] 31 : Obj))).heap[w.heap.size]? = some (.cells #[.string p.kind, .bool p.on, .bool p.broken, s, .int .i64 p.count] 31 : Obj) := heap_old (by simp) (heap_new rfl)
  have y1 : (((w.alloc (.cells #[.string p.kind, .bool p.on, .bool p.broken, s, .int .i64 p.count] 31 : Obj)).alloc (.cells #[.string ⟨#[]⟩, .bool false, .bool false, .slice none 0 0, .int .i64 0] 31 : Obj))).heap[w.heap.size + 1]? = some (.cells #[.string ⟨#[]⟩, .bool false, .bool false, .slice none 0 0, .int .i64 0] 31 : Obj) := heap_new (by simp)
  have Y0 := hide y0
  have Y1 := hide y1
  clear hs y0 y1
  unfold coreV
  go_enter Tryz.func58, Tryz.ntmps58
  go_wp2_with (at_builtin; go_must (refine copy_law rfl _ _ 29 (by exact rfl) (w.heap.size + 1 + 1) 63 i0 _ 2 24 Tryz.underlying29 hi hz0 hz1 hz2 rfl (by decide) cellEn (fun _ => rfl) one_cell (.slice none 0 0) s p.cells (by exact rfl) hown (by exact rfl) hr hbz (by omega) (by decide) ?_); intro v1 w1 hown1 hg1;
                    have Z0 := (hg1.block w.heap.size (by simp <;> omega) (by simp [Value.ownBlock] <;> omega)).trans Y0.out;
                    have Z1 := (hg1.block (w.heap.size + 1) (by simp <;> omega) (by simp [Value.ownBlock] <;> omega)).trans Y1.out;
                    have B1 : Below w.heap.size w w1 := HH.out.grown hg1 HH.out.size (fun k hk => by have h := (hown.lt hk).1; omega);
                    obtain ⟨A', c', rfl⟩ := hown1.shape;
                    obtain ⟨a0, a1, a2, a3, a4, af⟩ := five_cells Z0;
                    obtain ⟨b0, b1, b2, b3, b4, bf⟩ := five_cells Z1;
                    have HO := hide hown1;
                    clear hown1 hg1 Z0 Z1)
  have HB2 := (((((B1.setCell (p := ⟨w.heap.size, 3, none⟩) (by simp) (Value.slice A' p.cells.length c')).setCell (p := ⟨w.heap.size + 1, 0, none⟩) (by simp) (Value.string p.kind)).setCell (p := ⟨w.heap.size + 1, 1, none⟩) (by simp) (Value.bool p.on)).setCell (p := ⟨w.heap.size + 1, 2, none⟩) (by simp) (Value.bool p.broken)).setCell (p := ⟨w.heap.size + 1, 3, none⟩) (by simp) (Value.slice A' p.cells.length c')).setCell (p := ⟨w.heap.size + 1, 4, none⟩) (by simp) (Value.int .i64 p.count)
  refine bodyPost_ret (v := .agg #[.string p.kind, .bool p.on, .bool p.broken, .slice A' p.cells.length c', .int .i64 p.count]) (by simp [results, Tryz.results58, go_sem, b0, b1, b2, b3, b4]) rfl ⟨_, rfl, ?_, HB2⟩
  refine OwnL.mono (b' := w.heap.size) (base := w.heap.size + 1 + 1) ?_ (by omega)
  have HO' := HO.out
  iterate 6 refine OwnL.set ?_ (by simp <;> omega) _
  exact HO'
set_option maxHeartbeats 1000000 in
theorem sCopyCore_c (p : Pu.CoreD) (s : Value) (w : World) (hs : RdL w 2 cellEn s p.cells) (hl : p.cells.length ≤ 16777216) :
    Calls Tryz.prog 50 #[coreV p s] w fun e w' => ∃ s', e = .returned (coreV p s') ∧ OwnL w' w.heap.size 63 2 cellEn s' p.cells ∧ Below w.heap.size w w' := by
  obtain ⟨i0, hi, hz0, hz1, hz2⟩ := info_parts info_cell
  have HB : Below w.heap.size w (((w.alloc (.cells #[.string p.kind, .bool p.on, .bool p.broken, s, .int .i64 p.count] 31 : Obj)).alloc (.cells #[.string ⟨#[]⟩, .bool false, .bool false, .slice none 0 0, .int .i64 0] 31 : Obj)).alloc (.cells #[] 63 : Obj)) := below_alloc (below_alloc (below_alloc (Below.refl _ _) _) _) _
  have HH := hide HB
  have hr := RdL.below hs HB (Nat.le_refl _)
  have hown : OwnL (((w.alloc (.cells #[.string p.kind, .bool p.on, .bool p.broken, s, .int .i64 p.count] 31 : Obj)).alloc (.cells #[.string ⟨#[]⟩, .bool false, .bool false, .slice none 0 0, .int .i64 0] 31 : Obj)).alloc (.cells #[] 63 : Obj)) (w.heap.size + 1 + 1) 63 2 cellEn (.slice (some ⟨w.heap.size + 1 + 1, 0, none⟩) 0 0) [] := by have h := own_made (w := ((w.alloc (.cells #[.string p.kind, .bool p.on, .bool p.broken, s, .int .i64 p.count] 31 : Obj)).alloc (.cells #[.string ⟨#[]⟩, .bool false, .bool false, .slice none 0 0, .int .i64 0] 31 : Obj))) (e := 63) (en := cellEn) (size := 2) [] (n := 0) rfl (fun _ => rfl) (Nat.zero_le _); rw [show (((w.alloc (.cells #[.string p.kind, .bool p.on, .bool p.broken, s, .int .i64 p.count] 31 : Obj)).alloc (.cells #[.string ⟨#[]⟩, .bool false, .bool false, .slice none 0 0, .int .i64 0] 31 : Obj))).heap.size = w.heap.size + 1 + 1 by simp] at h; exact h
  have hbz : w.heap.size + 1 + 1 ≤ ((((w.alloc (.cells #[.string p.kind, .bool p.on, .bool p.broken, s, .int .i64 p.count] 31 : Obj)).alloc (.cells #[.string ⟨#[]⟩, .bool false, .bool false, .slice none 0 0, .int .i64 0] 31 : Obj)).alloc (.cells #[] 63 : Obj))).heap.size := by simp
  have y0 : ((((w.alloc (.cells #[.string p.kind, .bool p.on, .bool p.broken, s, .int .i64 p.count] 31 : Obj)).alloc (.cells #[.string ⟨#[]⟩, .bool false, .bool false, .slice none 0 0, .int .i64 0] 31 : Obj)).alloc (.cells #[] 63 : Obj))).heap[w.heap.size]? = some (.cells #[.string p.kind, .bool p.on, .bool p.broken, s, .int .i64 p.count] 31 : Obj) := heap_old (by simp <;> omega) (heap_old (by simp) (heap_new rfl))
  have y1 : ((((w.alloc (.cells #[.string p.kind, .bool p.on, .bool p.broken, s, .int .i64 p.count] 31 : Obj)).alloc (.cells #[.string ⟨#[]⟩, .bool false, .bool false, .slice none 0 0, .int .i64 0] 31 : Obj)).alloc (.cells #[] 63 : Obj))).heap[w.heap.size + 1]? = some (.cells #[.string ⟨#[]⟩, .bool false, .bool false, .slice none 0 0, .int .i64 0] 31 : Obj) := heap_old (by simp) (heap_new (by simp))
  have Y0 := hide y0
  have Y1 := hide y1
  clear hs y0 y1
  unfold coreV
  go_enter Tryz.func50, Tryz.ntmps50
  go_wp2_with (at_builtin; go_must (refine copy_law rfl _ _ 29 (by exact rfl) (w.heap.size + 1 + 1) 63 i0 _ 2 24 Tryz.underlying29 hi hz0 hz1 hz2 rfl (by decide) cellEn (fun _ => rfl) one_cell (.slice (some ⟨w.heap.size + 1 + 1, 0, none⟩) 0 0) s p.cells (by exact rfl) hown (by exact rfl) hr hbz (by omega) (by decide) ?_); intro v1 w1 hown1 hg1;
                    have Z0 := (hg1.block w.heap.size (by simp <;> omega) (by simp [Value.ownBlock] <;> omega)).trans Y0.out;
                    have Z1 := (hg1.block (w.heap.size + 1) (by simp <;> omega) (by simp [Value.ownBlock] <;> omega)).trans Y1.out;
                    have B1 : Below w.heap.size w w1 := HH.out.grown hg1 HH.out.size (fun k hk => by have h := (hown.lt hk).1; omega);
                    obtain ⟨A', c', rfl⟩ := hown1.shape;
                    obtain ⟨a0, a1, a2, a3, a4, af⟩ := five_cells Z0;
                    obtain ⟨b0, b1, b2, b3, b4, bf⟩ := five_cells Z1;
                    have HO := hide hown1;
                    clear hown1 hg1 Z0 Z1)
  have HB2 := (((((B1.setCell (p := ⟨w.heap.size, 3, none⟩) (by simp) (Value.slice A' p.cells.length c')).setCell (p := ⟨w.heap.size + 1, 0, none⟩) (by simp) (Value.string p.kind)).setCell (p := ⟨w.heap.size + 1, 1, none⟩) (by simp) (Value.bool p.on)).setCell (p := ⟨w.heap.size + 1, 2, none⟩) (by simp) (Value.bool p.broken)).setCell (p := ⟨w.heap.size + 1, 3, none⟩) (by simp) (Value.slice A' p.cells.length c')).setCell (p := ⟨w.heap.size + 1, 4, none⟩) (by simp) (Value.int .i64 p.count)
  refine bodyPost_ret (v := .agg #[.string p.kind, .bool p.on, .bool p.broken, .slice A' p.cells.length c', .int .i64 p.count]) (by simp [results, Tryz.results50, go_sem, b0, b1, b2, b3, b4]) rfl ⟨_, rfl, ?_, HB2⟩
  refine OwnL.mono (b' := w.heap.size) (base := w.heap.size + 1 + 1) ?_ (by omega)
  have HO' := HO.out
  iterate 6 refine OwnL.set ?_ (by simp <;> omega) _
  exact HO'
end Go.Proofs.YtllmcnmongaahaaGreatDoor
/- Contracts: calls as texts. -/
namespace Go.Proofs.YtllmcnmongaahaaGreatDoor
open Go.ChangeShapes Go.WideShapes Go.ChangeAt Go.RowKit
set_option maxRecDepth 100000
theorem Pu.numB_3 {n : Int} (h : Pu.isNum n = true) : (Pu.numB n).size ≤ 3 := by
  simp only [Pu.isNum, Bool.and_eq_true, decide_eq_true_eq] at h
  have := Pu.itoa_len_small h.1 h.2
  have e : (Pu.numB n).size = (Lib.itoa n).length := rfl
  omega
theorem Pu.isNum_bd {n : Int} (h : Pu.isNum n = true) : 0 ≤ n ∧ n ≤ 999 := by
  simp only [Pu.isNum, Bool.and_eq_true, decide_eq_true_eq] at h
  exact h
theorem Pu.name_8 {s : ByteArray} (h : Pu.nameL s.toList = true) : s.size ≤ 8 := by
  simp only [Pu.nameL, Bool.and_eq_true, decide_eq_true_eq, lenB] at h
  exact h.1.2
def Pu.callTo (g p h l : Bool) (x : Pu.CallD) : ByteArray :=
  if p then ⟨#[80, 117, 116, 32]⟩ ++ x.key ++ ⟨#[32]⟩ ++ Pu.numB x.value else if g then ⟨#[71, 101, 116, 32]⟩ ++ x.key else if h then ⟨#[72, 101, 97, 114, 32]⟩ ++ Pu.numB x.value else if l then ⟨#[76, 111, 97, 100, 32]⟩ ++ x.text else x.method
def Pu.callT (x : Pu.CallD) : ByteArray := if Pu.callB x then Pu.callTo (x.method.toList == Pu.mGet) (x.method.toList == Pu.mPut) (x.method.toList == Pu.mHear) (x.method.toList == Pu.mLoad) x else ⟨#[]⟩
set_option maxHeartbeats 4000000 in
theorem iFormatCall_c (x : Pu.CallD) (w : World) (hT : Pow10 w) (hw : CallD.wf x) (htx : x.text.size ≤ 1048576) :
    Calls Tryz.prog 38 #[callV x] w fun e w' => e = .returned (.string (Pu.callT x)) ∧ Below w.heap.size w w' := by
  have hlt0 := hT.lt
  have HT := hide hT
  clear hT
  have HW := hide hw
  clear hw
  have hA : Hid (Below w.heap.size w (w.alloc (.cells #[.string x.method, .string x.key, .int .i64 x.value, .string x.text] 37))) := below_alloc (Below.refl _ _) _
  rcases hB : Pu.callB x with _ | _
  · have HF : Hid (Pu.callT x = ⟨#[]⟩) := by rw [Hid, Pu.callT, hB]; rfl
    unfold callV
    go_enter Tryz.func38, Tryz.ntmps38
    go_wp2_with fail
    refine (iIsCall_c x _ HW.out).mono ?_; rintro e w1 ⟨rfl, b1⟩
    rw [hB]
    go_wp2
    go_ret
    exact ⟨ret_str HF.out.symm, below_then hA.out b1⟩
  obtain ⟨G, hG⟩ : ∃ b, (x.method.toList == [71, 101, 116]) = b := ⟨_, rfl⟩
  obtain ⟨P, hP⟩ : ∃ b, (x.method.toList == [80, 117, 116]) = b := ⟨_, rfl⟩
  obtain ⟨H, hH⟩ : ∃ b, (x.method.toList == [72, 101, 97, 114]) = b := ⟨_, rfl⟩
  obtain ⟨L, hL⟩ : ∃ b, (x.method.toList == [76, 111, 97, 100]) = b := ⟨_, rfl⟩
  have hm := Pu.method_cases x.method.toList
  simp only [Pu.mGet, Pu.mPut, Pu.mHear, Pu.mLoad, hG, hP, hH, hL] at hm
  have HF : Hid (Pu.callT x = Pu.callTo G P H L x) := by rw [Hid, Pu.callT, hB, if_pos rfl, Pu.mGet, Pu.mPut, Pu.mHear, Pu.mLoad, hG, hP, hH, hL]
  have HO : Hid (Pu.callOf G P H L x = true) := by rw [Hid, ← hB, Pu.callB, Pu.mGet, Pu.mPut, Pu.mHear, Pu.mLoad, hG, hP, hH, hL]
  have HBX := hide hB
  clear hB
  unfold callV
  rcases hm with ⟨rfl, rfl, rfl, rfl⟩ | ⟨rfl, rfl, rfl, rfl⟩ | ⟨rfl, rfl, rfl, rfl⟩ | ⟨rfl, rfl, rfl, rfl⟩ | ⟨rfl, rfl, rfl, rfl⟩
  · have h8 : x.key.size ≤ 8 := by
      have h := HO.out
      simp [Pu.callOf] at h
      exact Pu.name_8 h.2.1
    have hz1 : ¬ 9223372036854775807 < 4 + x.key.size := by omega
    go_enter Tryz.func38, Tryz.ntmps38
    go_wp2_with fail
    refine (iIsCall_c x _ HW.out).mono ?_; rintro e w1 ⟨rfl, b1⟩
    rw [HBX.out]
    obtain ⟨c0, c1, c2, c3, cf⟩ := four_cells ((b1.block w.heap.size (by simp)).trans (heap_new rfl))
    go_wp2
    go_ret
    exact ⟨ret_str HF.out.symm, below_then hA.out b1⟩
  · have h8 : x.key.size ≤ 8 ∧ Pu.isNum x.value = true := by
      have h := HO.out
      simp [Pu.callOf] at h
      exact ⟨Pu.name_8 h.2.1, h.2.2⟩
    have hn3 := Pu.numB_3 h8.2
    have hnb := Pu.isNum_bd h8.2
    have hk8 := h8.1
    clear h8
    have hz1 : ¬ 9223372036854775807 < 4 + x.key.size := by omega
    have hz2 : ¬ 9223372036854775807 < 4 + x.key.size + 1 := by omega
    have hz3 : ¬ 9223372036854775807 < 4 + x.key.size + 1 + (Pu.numB x.value).size := by omega
    go_enter Tryz.func38, Tryz.ntmps38
    go_wp2_with fail
    refine (iIsCall_c x _ HW.out).mono ?_; rintro e w1 ⟨rfl, b1⟩
    rw [HBX.out]
    obtain ⟨c0, c1, c2, c3, cf⟩ := four_cells ((b1.block w.heap.size (by simp)).trans (heap_new rfl))
    have HB1 := hide (below_then hA.out b1)
    have hL1 : w.heap.size < w1.heap.size := by have := b1.size; simp at this; omega
    clear b1
    go_wp2_with fail
    have K0 : Below w1.heap.size w1 w1 := Below.refl _ _
    have HT1 := hide (HT.out.below HB1.out hlt0)
    have hlt1 := HT1.out.lt
    go_region_held3 (fun w' => w'.cell? ⟨w.heap.size, 1, none⟩ = some (.string x.key) ∧ w'.cell? ⟨w.heap.size, 2, none⟩ = some (.int .i64 x.value)) (go_keep)
      (first
        | (go_at_call 70;
            refine (iFormatNumber_c x.value _ (HT1.out.below (by first | exact K0 | exact K0.drew) hlt1) (by omega) (by omega)).mono ?_;
            rintro e WX ⟨rfl, bX⟩;
            have KWX : Below w1.heap.size w1 WX := below_then (by first | exact K0 | exact K0.drew) bX;
            have KX : ∀ k : Nat, WX.cell? ⟨w.heap.size, k, none⟩ = _ := fun k => KWX.cell hL1))
    go_wp2
    go_ret
    exact ⟨ret_str HF.out.symm, below_then HB1.out KWX⟩
  · have hnb : Pu.isNum x.value = true := by
      have h := HO.out
      simp [Pu.callOf] at h
      exact h.2.2
    have hn3 := Pu.numB_3 hnb
    have hnb := Pu.isNum_bd hnb
    have hz1 : ¬ 9223372036854775807 < 5 + (Pu.numB x.value).size := by omega
    go_enter Tryz.func38, Tryz.ntmps38
    go_wp2_with fail
    refine (iIsCall_c x _ HW.out).mono ?_; rintro e w1 ⟨rfl, b1⟩
    rw [HBX.out]
    obtain ⟨c0, c1, c2, c3, cf⟩ := four_cells ((b1.block w.heap.size (by simp)).trans (heap_new rfl))
    have HB1 := hide (below_then hA.out b1)
    clear b1
    have K0 : Below w1.heap.size w1 w1 := Below.refl _ _
    have HT1 := hide (HT.out.below HB1.out hlt0)
    have hlt1 := HT1.out.lt
    go_wp2_with fail
    refine (iFormatNumber_c x.value _ (HT1.out.below (by first | exact K0 | exact K0.drew) hlt1) (by omega) (by omega)).mono ?_; rintro e w2 ⟨rfl, b2⟩
    go_wp2
    go_ret
    exact ⟨ret_str HF.out.symm, below_then HB1.out b2⟩
  · have hz1 : ¬ 9223372036854775807 < 5 + x.text.size := by omega
    go_enter Tryz.func38, Tryz.ntmps38
    go_wp2_with fail
    refine (iIsCall_c x _ HW.out).mono ?_; rintro e w1 ⟨rfl, b1⟩
    rw [HBX.out]
    obtain ⟨c0, c1, c2, c3, cf⟩ := four_cells ((b1.block w.heap.size (by simp)).trans (heap_new rfl))
    go_wp2
    go_ret
    exact ⟨ret_str HF.out.symm, below_then hA.out b1⟩
  · go_enter Tryz.func38, Tryz.ntmps38
    go_wp2_with fail
    refine (iIsCall_c x _ HW.out).mono ?_; rintro e w1 ⟨rfl, b1⟩
    rw [HBX.out]
    obtain ⟨c0, c1, c2, c3, cf⟩ := four_cells ((b1.block w.heap.size (by simp)).trans (heap_new rfl))
    go_wp2
    go_ret
    exact ⟨ret_str HF.out.symm, below_then hA.out b1⟩
set_option maxHeartbeats 4000000 in
theorem sFormatCall_c (x : Pu.CallD) (w : World) (hw : CallD.wf x) (htx : x.text.size ≤ 1048576) :
    Calls Tryz.prog 76 #[callV x] w fun e w' => e = .returned (.string (Pu.callT x)) ∧ Below w.heap.size w w' := by
  have HW := hide hw
  clear hw
  have hA : Hid (Below w.heap.size w (w.alloc (.cells #[.string x.method, .string x.key, .int .i64 x.value, .string x.text] 37))) := below_alloc (Below.refl _ _) _
  rcases hB : Pu.callB x with _ | _
  · have HF : Hid (Pu.callT x = ⟨#[]⟩) := by rw [Hid, Pu.callT, hB]; rfl
    unfold callV
    go_enter Tryz.func76, Tryz.ntmps76
    go_wp2_with fail
    refine (sIsCall_c x _ HW.out).mono ?_; rintro e w1 ⟨rfl, b1⟩
    rw [hB]
    go_wp2
    go_ret
    exact ⟨ret_str HF.out.symm, below_then hA.out b1⟩
  obtain ⟨G, hG⟩ : ∃ b, (x.method.toList == [71, 101, 116]) = b := ⟨_, rfl⟩
  obtain ⟨P, hP⟩ : ∃ b, (x.method.toList == [80, 117, 116]) = b := ⟨_, rfl⟩
  obtain ⟨H, hH⟩ : ∃ b, (x.method.toList == [72, 101, 97, 114]) = b := ⟨_, rfl⟩
  obtain ⟨L, hL⟩ : ∃ b, (x.method.toList == [76, 111, 97, 100]) = b := ⟨_, rfl⟩
  have hm := Pu.method_cases x.method.toList
  simp only [Pu.mGet, Pu.mPut, Pu.mHear, Pu.mLoad, hG, hP, hH, hL] at hm
  have HF : Hid (Pu.callT x = Pu.callTo G P H L x) := by rw [Hid, Pu.callT, hB, if_pos rfl, Pu.mGet, Pu.mPut, Pu.mHear, Pu.mLoad, hG, hP, hH, hL]
  have HO : Hid (Pu.callOf G P H L x = true) := by rw [Hid, ← hB, Pu.callB, Pu.mGet, Pu.mPut, Pu.mHear, Pu.mLoad, hG, hP, hH, hL]
  have HBX := hide hB
  clear hB
  unfold callV
  rcases hm with ⟨rfl, rfl, rfl, rfl⟩ | ⟨rfl, rfl, rfl, rfl⟩ | ⟨rfl, rfl, rfl, rfl⟩ | ⟨rfl, rfl, rfl, rfl⟩ | ⟨rfl, rfl, rfl, rfl⟩
  · have h8 : x.key.size ≤ 8 := by
      have h := HO.out
      simp [Pu.callOf] at h
      exact Pu.name_8 h.2.1
    have hz1 : ¬ 9223372036854775807 < 4 + x.key.size := by omega
    go_enter Tryz.func76, Tryz.ntmps76
    go_wp2_with fail
    refine (sIsCall_c x _ HW.out).mono ?_; rintro e w1 ⟨rfl, b1⟩
    rw [HBX.out]
    obtain ⟨c0, c1, c2, c3, cf⟩ := four_cells ((b1.block w.heap.size (by simp)).trans (heap_new rfl))
    go_wp2
    go_ret
    exact ⟨ret_str HF.out.symm, below_then hA.out b1⟩
  · have h8 : x.key.size ≤ 8 ∧ Pu.isNum x.value = true := by
      have h := HO.out
      simp [Pu.callOf] at h
      exact ⟨Pu.name_8 h.2.1, h.2.2⟩
    have hn3 := Pu.numB_3 h8.2
    have hnb := Pu.isNum_bd h8.2
    have hk8 := h8.1
    clear h8
    have hz1 : ¬ 9223372036854775807 < 4 + x.key.size := by omega
    have hz2 : ¬ 9223372036854775807 < 4 + x.key.size + 1 := by omega
    have hz3 : ¬ 9223372036854775807 < 4 + x.key.size + 1 + (Pu.numB x.value).size := by omega
    go_enter Tryz.func76, Tryz.ntmps76
    go_wp2_with fail
    refine (sIsCall_c x _ HW.out).mono ?_; rintro e w1 ⟨rfl, b1⟩
    rw [HBX.out]
    obtain ⟨c0, c1, c2, c3, cf⟩ := four_cells ((b1.block w.heap.size (by simp)).trans (heap_new rfl))
    have HB1 := hide (below_then hA.out b1)
    have hL1 : w.heap.size < w1.heap.size := by have := b1.size; simp at this; omega
    clear b1
    go_wp2_with fail
    have K0 : Below w1.heap.size w1 w1 := Below.refl _ _
    go_region_held3 (fun w' => w'.cell? ⟨w.heap.size, 1, none⟩ = some (.string x.key) ∧ w'.cell? ⟨w.heap.size, 2, none⟩ = some (.int .i64 x.value)) (go_keep)
      (first
        | (go_at_call 105;
            refine (sFormatNumber_c x.value _ (by omega) (by omega)).mono ?_;
            rintro e WX ⟨rfl, bX⟩;
            have KWX : Below w1.heap.size w1 WX := below_then (by first | exact K0 | exact K0.drew) bX;
            have KX : ∀ k : Nat, WX.cell? ⟨w.heap.size, k, none⟩ = _ := fun k => KWX.cell hL1))
    go_wp2
    go_ret
    exact ⟨ret_str HF.out.symm, below_then HB1.out KWX⟩
  · have hnb : Pu.isNum x.value = true := by
      have h := HO.out
      simp [Pu.callOf] at h
      exact h.2.2
    have hn3 := Pu.numB_3 hnb
    have hnb := Pu.isNum_bd hnb
    have hz1 : ¬ 9223372036854775807 < 5 + (Pu.numB x.value).size := by omega
    go_enter Tryz.func76, Tryz.ntmps76
    go_wp2_with fail
    refine (sIsCall_c x _ HW.out).mono ?_; rintro e w1 ⟨rfl, b1⟩
    rw [HBX.out]
    obtain ⟨c0, c1, c2, c3, cf⟩ := four_cells ((b1.block w.heap.size (by simp)).trans (heap_new rfl))
    have HB1 := hide (below_then hA.out b1)
    clear b1
    have K0 : Below w1.heap.size w1 w1 := Below.refl _ _
    go_wp2_with fail
    refine (sFormatNumber_c x.value _ (by omega) (by omega)).mono ?_; rintro e w2 ⟨rfl, b2⟩
    go_wp2
    go_ret
    exact ⟨ret_str HF.out.symm, below_then HB1.out b2⟩
  · have hz1 : ¬ 9223372036854775807 < 5 + x.text.size := by omega
    go_enter Tryz.func76, Tryz.ntmps76
    go_wp2_with fail
    refine (sIsCall_c x _ HW.out).mono ?_; rintro e w1 ⟨rfl, b1⟩
    rw [HBX.out]
    obtain ⟨c0, c1, c2, c3, cf⟩ := four_cells ((b1.block w.heap.size (by simp)).trans (heap_new rfl))
    go_wp2
    go_ret
    exact ⟨ret_str HF.out.symm, below_then hA.out b1⟩
  · go_enter Tryz.func76, Tryz.ntmps76
    go_wp2_with fail
    refine (sIsCall_c x _ HW.out).mono ?_; rintro e w1 ⟨rfl, b1⟩
    rw [HBX.out]
    obtain ⟨c0, c1, c2, c3, cf⟩ := four_cells ((b1.block w.heap.size (by simp)).trans (heap_new rfl))
    go_wp2
    go_ret
    exact ⟨ret_str HF.out.symm, below_then hA.out b1⟩
theorem szCall2_c (x : Pu.CallD) (w : World) (hw : CallD.wf x) :
    Calls Tryz.prog 12 #[callV x, .int .i64 1048576] w fun e w' => (e = .returned (.int .i64 (-1)) ∨ ∃ n : Int, 0 ≤ n ∧ x.text.size ≤ 1048576 ∧ e = .returned (.int .i64 n)) ∧ Below w.heap.size w w' := by
  obtain ⟨h1, h2, h3, h4⟩ := hw
  unfold maxLen at h1 h2 h4
  clear h3
  unfold callV
  go_enter Tryz.func12, Tryz.ntmps12
  go_wp2_with fail
  all_goals go_ret
  all_goals first
    | exact ⟨.inl rfl, below_alloc (Below.refl _ _) _⟩
    | exact ⟨.inr ⟨_, by omega, by omega, rfl⟩, below_alloc (Below.refl _ _) _⟩
end Go.Proofs.YtllmcnmongaahaaGreatDoor
/- Contract: the reference reads a number. -/
namespace Go.Proofs.YtllmcnmongaahaaGreatDoor
open Go.ChangeShapes Go.WideShapes Go.ChangeAt Go.RowKit
set_option maxRecDepth 100000
theorem Pu.hor_step {s : ByteArray} {k : Nat} (h : k < s.size) : Pu.hor 0 (s.toList.take (k + 1)) = 10 * Pu.hor 0 (s.toList.take k) + s[k].toNat - 48 := by
  have hk : k < s.toList.length := by rw [lenB]; exact h
  have e : s.toList[k] = s[k] := by
    have h1 := dropB h
    rw [List.drop_eq_getElem_cons hk] at h1
    exact (List.cons.inj h1).1
  rw [List.take_succ_eq_append_getElem hk, Pu.hor_app, e]; rfl
set_option maxHeartbeats 1000000 in
theorem sParseNumber_c (s : ByteArray) (w : World) (hs : s.size ≤ maxLen) :
    Calls Tryz.prog 117 #[.string s] w fun e w' => e = .returned (.tuple #[.int .i64 (Pu.pnV s.toList), .bool (Pu.pnB s.toList)]) ∧ Below w.heap.size w w' := by
  unfold maxLen at hs
  have HL := hide (lenB s)
  go_enter Tryz.func117, Tryz.ntmps117
  go_wp2
  go_loopw [4, 5] (fun v i wr => ∃ k : Nat, k ≤ 4 ∧ k ≤ s.size ∧ i = .int .i64 k ∧ v = .int .i64 (Pu.hor 0 (s.toList.take k)) ∧ w = wr) (fun _ i _ => 4 - (intOf i).toNat)
  case atStart => exact ⟨0, by omega, by omega, rfl, rfl, rfl⟩
  case round =>
    obtain ⟨k, hk, hks, rfl, rfl, rfl⟩ := hrel
    have hb := Pu.hor_bd (s.toList.take k) (by rw [List.length_take]; omega)
    by_cases hlt : k < s.size
    · by_cases hk4 : k < 4
      · have HS := hide (Pu.hor_step hlt)
        have hbt : s[k].toNat < 256 := s[k].toNat_lt
        generalize Pu.hor 0 (s.toList.take k) = x at hb HS ⊢
        go_wp2
        go_roundw
        case rel => exact ⟨k + 1, by omega, by omega, by go_num, by rw [HS.out], trivial⟩
        case measure => simp [intOf]; omega
      · obtain rfl : k = 4 := by omega
        have HM := hide (Pu.pn_miss (s := s.toList) fun n _ e => by have := (Pu.numK_len n).2; rw [e, lenB] at this; omega)
        have HI : Hid (∀ n : Int, 0 ≤ n → n ≤ 999 → ((Pu.numB n).toList == s.toList) = false) := fun n h0 h1 => by
          rw [Bool.eq_false_iff]
          intro hc
          have h2 := Pu.itoa_len_small h0 h1
          have h3 : (Pu.numB n).toList = s.toList := by simpa using hc
          rw [Pu.numB, Lib.toList_data] at h3
          have h4 := congrArg List.length h3
          rw [lenB] at h4
          have h5 : (⟨(Lib.itoa n).toArray⟩ : ByteArray).data.toList.length = (Lib.itoa n).length := rfl
          omega
        generalize Pu.hor 0 (s.toList.take 4) = x at hb ⊢
        have hs0 : ¬ s.size = 0 := by omega
        by_cases hx0 : x < 0
        · go_wp2
          go_ret2
          exact ⟨by rw [HM.out.1, HM.out.2]; rfl, Below.refl _ _⟩
        by_cases hx1 : 999 < x
        · go_wp2
          go_ret2
          exact ⟨by rw [HM.out.1, HM.out.2]; rfl, Below.refl _ _⟩
        have hq := HI.out x (by omega) (by omega)
        go_wp2_with (go_at_call 105; refine (sFormatNumber_c _ _ (by omega) (by omega)).mono ?_; rintro e W2 ⟨rfl, b2⟩)
        go_ret2
        exact ⟨by rw [HM.out.1, HM.out.2]; rfl, b2⟩
    · have hkk : k = s.size := by omega
      have hks' : Hid (s.toList.take k = s.toList) := by rw [Hid, List.take_of_length_le]; rw [lenB]; omega
      rw [hks'.out] at hb ⊢
      by_cases hs0 : s.size = 0
      · have HM := hide (Pu.pn_miss (s := s.toList) fun n _ e => by have := (Pu.numK_len n).1; rw [e, lenB] at this; omega)
        have hnl : ¬ (k : Int) < s.size := by omega
        clear hks
        go_wp2
        go_ret2
        exact ⟨by rw [HM.out.1, HM.out.2]; rfl, Below.refl _ _⟩
      have hmiss : (∀ h0 : 0 ≤ Pu.hor 0 s.toList, ∀ h1 : Pu.hor 0 s.toList ≤ 999, Lib.itoa (Pu.hor 0 s.toList) ≠ s.toList) → Pu.pnV s.toList = 0 ∧ Pu.pnB s.toList = false := fun h => Pu.pn_miss (s := s.toList) fun m hm e => by
        have h1 := Pu.hor_K m hm
        rw [e] at h1
        exact h (by omega) (by omega) (by rw [h1, Pu.itoa_K hm]; exact e)
      have hhit : ∀ h0 : 0 ≤ Pu.hor 0 s.toList, ∀ h1 : Pu.hor 0 s.toList ≤ 999, Lib.itoa (Pu.hor 0 s.toList) = s.toList → Pu.pnV s.toList = Pu.hor 0 s.toList ∧ Pu.pnB s.toList = true := fun h0 h1 e => Pu.pn_hit h0 h1 e
      have hnl : ¬ (k : Int) < s.size := by omega
      generalize Pu.hor 0 s.toList = x at hb hmiss hhit ⊢
      by_cases hx0 : x < 0
      · have HM := hide (hmiss fun _ _ => by omega)
        clear hmiss hhit
        go_wp2
        go_ret2
        exact ⟨by rw [HM.out.1, HM.out.2]; rfl, Below.refl _ _⟩
      by_cases hx1 : 999 < x
      · have HM := hide (hmiss fun _ _ => by omega)
        clear hmiss hhit
        go_wp2
        go_ret2
        exact ⟨by rw [HM.out.1, HM.out.2]; rfl, Below.refl _ _⟩
      rcases hq : ((Pu.numB x).toList == s.toList) with _ | _
      · have HM := hide (hmiss fun _ _ e => by rw [Pu.numB, Lib.toList_data] at hq; simp [e] at hq)
        clear hmiss hhit
        go_wp2_with (go_at_call 105; refine (sFormatNumber_c _ _ (by omega) (by omega)).mono ?_; rintro e W2 ⟨rfl, b2⟩)
        go_ret2
        exact ⟨by rw [HM.out.1, HM.out.2]; rfl, b2⟩
      · have HM := hide (hhit (by omega) (by omega) (by rw [Pu.numB, Lib.toList_data] at hq; simpa using hq))
        clear hmiss hhit
        go_wp2_with (go_at_call 105; refine (sFormatNumber_c _ _ (by omega) (by omega)).mono ?_; rintro e W2 ⟨rfl, b2⟩)
        go_ret2
        exact ⟨by rw [HM.out.1, HM.out.2]; rfl, b2⟩
end Go.Proofs.YtllmcnmongaahaaGreatDoor
/- Contracts: drawn numbers and their texts. -/
namespace Go.Proofs.YtllmcnmongaahaaGreatDoor
open Go.ChangeShapes Go.WideShapes Go.ChangeAt Go.RowKit
set_option maxRecDepth 100000
theorem Pu.numB_size {n : Int} (h0 : -9223372036854775808 ≤ n) (h1 : n ≤ 9223372036854775807) : (Pu.numB n).size ≤ 20 := by
  have := Pu.itoa_len h0 h1
  have e : (Pu.numB n).size = (Lib.itoa n).length := rfl
  omega
end Go.Proofs.YtllmcnmongaahaaGreatDoor
/- Texts divided and joined again; ascending texts, in plain Lean. -/
namespace Go.Proofs.YtllmcnmongaahaaGreatDoor.Pu
theorem joinB_data (sep : ByteArray) (l : List ByteArray) : (joinB sep l).data.toList = Lib.join (l.map (·.data.toList)) sep.data.toList := by
  rw [← joinB_lib]
theorem join_two (x y : List UInt8) (r : List (List UInt8)) (sep : List UInt8) : Lib.join (x :: y :: r) sep = x ++ sep ++ Lib.join (y :: r) sep := by
  rw [Lib.join_cons, Lib.join_cons]
  simp [Lib.joinTail]
theorem ext_same {a b : ByteArray} (h : a.data.toList = b.data.toList) : a = b := by
  apply ByteArray.ext
  apply Array.toList_inj.1
  exact h
theorem join_split (sep : ByteArray) : ∀ (n : Nat) (s : ByteArray), s.size ≤ n → joinB sep (splitA sep s) = s
  | n, s, hn => by
    by_cases h : sep.size = 0
    · rw [splitA_nul h]
      exact ext_same (by rw [joinB_data]; exact Lib.join_one _ _)
    rcases Lib.indexB_cases s sep with hi | ⟨i, hi, hr⟩
    · rw [splitA_miss (by omega) hi]
      exact ext_same (by rw [joinB_data]; exact Lib.join_one _ _)
    · rw [splitA_hit (by omega) hi]
      have hz : (s.extract (i + sep.size) s.size).size = s.size - (i + sep.size) := by rw [ByteArray.size_extract]; omega
      match n, hn with
      | 0, hn => omega
      | n + 1, hn =>
        have ih := join_split sep n (s.extract (i + sep.size) s.size) (by omega)
        obtain ⟨y, r, e⟩ := splitA_cons sep (s.extract (i + sep.size) s.size)
        refine ext_same ?_
        have ih2 := congrArg (·.data.toList) ih
        rw [joinB_data, e, List.map_cons] at ih2
        rw [joinB_data, e, List.map_cons, List.map_cons, join_two, ih2, drop_ext, Lib.extract_from_zero]
        rcases Lib.index_spec s.data.toList sep.data.toList with ⟨h1, _⟩ | ⟨j, h1, _, h3, _⟩
        · have h1' : Lib.indexB s sep = -1 := h1
          omega
        · have h1' : Lib.indexB s sep = j := h1
          obtain rfl : j = i := by omega
          unfold Lib.occAt at h3
          rw [List.isPrefixOf_iff_prefix, List.prefix_iff_eq_take] at h3
          have h4 : s.data.toList.drop j = sep.data.toList ++ s.data.toList.drop (j + sep.size) := by
            rw [← List.take_append_drop sep.data.toList.length (s.data.toList.drop j), ← h3, List.drop_drop, ← Lib.size_eq]
          rw [List.append_assoc, ← h4, List.take_append_drop]
theorem hasM_iff {s : ByteArray} : ∀ {l : List ByteArray}, hasT l s.toList = true ↔ s ∈ l
  | [] => by simp [hasT]
  | x :: r => by
    rw [hasT, List.mem_cons]
    split
    · have : x = s := eqL.1 (by assumption)
      simp [this]
    · rename_i h
      rw [hasM_iff]
      constructor
      · exact .inr
      · rintro (rfl | h')
        · exact (h (eqL.2 rfl)).elim
        · exact h'
theorem asc_in {l : List ByteArray} {i : Nat} {x : ByteArray} (h : (asc l)[i]? = some x) : hasT l x.toList = true :=
  hasM_iff.2 ((asc_mem l x).1 (List.mem_of_getElem? h))
theorem in_asc {l : List ByteArray} {i : Nat} {x : ByteArray} (h : l[i]? = some x) : hasT (asc l) x.toList = true :=
  hasM_iff.2 ((asc_mem l x).2 (List.mem_of_getElem? h))
theorem asc_less {l : List ByteArray} {i j : Nat} {x y : ByteArray} (hij : i < j) (hx : (asc l)[i]? = some x) (hy : (asc l)[j]? = some y) : Op.bytesLess x.toList y.toList = true := by
  obtain ⟨h1, rfl⟩ := List.getElem?_eq_some_iff.1 hx
  obtain ⟨h2, rfl⟩ := List.getElem?_eq_some_iff.1 hy
  exact lessL.2 (List.pairwise_iff_getElem.1 (asc_sorted l) i j h1 h2 hij)
theorem asc_asc (l : List ByteArray) : asc (asc l) = asc l := uniq (asc_sorted _) (asc_sorted _) fun x => asc_mem (asc l) x
end Go.Proofs.YtllmcnmongaahaaGreatDoor.Pu
/- Calls read from a text, in plain Lean. -/
namespace Go.Proofs.YtllmcnmongaahaaGreatDoor.Pu
def spB : ByteArray := ⟨#[32]⟩
def cutA (p : ByteArray) : ByteArray := ⟨(Lib.cut p.data.toList [32]).1.toArray⟩
def cutR (p : ByteArray) : ByteArray := ⟨(Lib.cut p.data.toList [32]).2.1.toArray⟩
def nulB : ByteArray := ⟨#[]⟩
def nulC : CallD := ⟨nulB, nulB, 0, nulB⟩
/-- the program's candidate -/
def candF (g p h l : Bool) (m r : ByteArray) : CallD :=
  if p then ⟨m, cutA r, pnV (cutR r).toList, nulB⟩ else if g then ⟨m, r, 0, nulB⟩ else if h then ⟨m, nulB, pnV r.toList, nulB⟩ else if l then ⟨m, nulB, 0, r⟩ else ⟨m, nulB, 0, nulB⟩
def candI (s : ByteArray) : CallD := candF ((cutA s).toList == mGet) ((cutA s).toList == mPut) ((cutA s).toList == mHear) ((cutA s).toList == mLoad) (cutA s) (cutR s)
/-- the reference's candidate -/
def candG (g p h l : Bool) (m z : ByteArray) (L : List ByteArray) : CallD :=
  if g then ⟨m, z, 0, nulB⟩ else if p then ⟨m, joinB spB ((L.take (L.length - min 1 (L.length - 1))).drop 1), pnV z.toList, nulB⟩ else if h then ⟨m, nulB, pnV z.toList, nulB⟩ else if l then ⟨m, nulB, 0, joinB spB (L.drop 1)⟩ else ⟨m, nulB, 0, nulB⟩
def candL (L : List ByteArray) : CallD :=
  let m := L.headD nulB
  candG (m.toList == mGet) (m.toList == mPut) (m.toList == mHear) (m.toList == mLoad) m (L.getLastD nulB) L
def candS (s : ByteArray) : CallD := candL (splitA spB s)
def goodC (c : CallD) (s : ByteArray) : Bool := callB c && ((callT c).toList == s.toList)
def pcallB (s : ByteArray) : Bool := goodC (candI s) s
def pcallC (s : ByteArray) : CallD := if pcallB s then candI s else nulC
/-! ## Cutting at the first blank -/
def noSp (l : List UInt8) : Prop := ∀ c ∈ l, c ≠ 32
theorem index_at {a b : List UInt8} (h : noSp a) : Lib.index (a ++ 32 :: b) [32] = (a.length : Int) := by
  induction a with
  | nil => simp [Lib.index, List.isPrefixOf]
  | cons x r ih =>
    have hx : x ≠ 32 := h x (by simp)
    have ih' := ih fun c hc => h c (by simp [hc])
    rw [List.cons_append, Lib.index]
    have h1 : ([32] : List UInt8).isPrefixOf (x :: (r ++ 32 :: b)) = false := by simp [List.isPrefixOf, Ne.symm hx]
    rw [h1, ih']
    simp
theorem ofD {s : ByteArray} {l : List UInt8} (h : s.data.toList = l) : s = ⟨l.toArray⟩ := by subst h; exact (Lib.mk_data s).symm
theorem cut_sp {s : ByteArray} {a b : List UInt8} (hs : s.data.toList = a ++ 32 :: b) (h : noSp a) : cutA s = ⟨a.toArray⟩ ∧ cutR s = ⟨b.toArray⟩ := by
  have e : Lib.cut s.data.toList [32] = (a, b, true) := by
    rw [hs, Lib.cut, index_at h, if_pos (by omega)]
    simp
  rw [cutA, cutR, e]
  exact ⟨rfl, rfl⟩
theorem cut_all {s : ByteArray} (h : noSp s.data.toList) : cutA s = s ∧ cutR s = nulB := by
  have e : Lib.cut s.data.toList [32] = (s.data.toList, [], false) := by
    rw [Lib.cut, none_index h, if_neg (by omega)]
  rw [cutA, cutR, e]
  exact ⟨Lib.mk_data s, rfl⟩
theorem split_sp {s : ByteArray} {a b : List UInt8} (hs : s.data.toList = a ++ 32 :: b) (h : noSp a) : splitA spB s = ⟨a.toArray⟩ :: splitA spB ⟨b.toArray⟩ := by
  have hi : Lib.indexB s spB = (a.length : Int) := by
    show Lib.index s.data.toList [32] = _
    rw [hs, index_at h]
  have e1 : spB.size = 1 := rfl
  have e2 : s.extract 0 a.length = ⟨a.toArray⟩ := ofD (by rw [Lib.extract_from_zero, hs]; simp)
  have e3 : s.extract (a.length + 1) s.size = ⟨b.toArray⟩ := ofD (by rw [drop_ext, hs]; simp)
  rw [splitA_hit (by decide) hi, e1, e2, e3]
theorem split_all {s : ByteArray} (h : noSp s.data.toList) : splitA spB s = [s] := splitA_miss (by decide) (none_index h)
/-! ## What a valid call is made of -/
theorem name_noSp {k : ByteArray} (h : nameL k.toList = true) : noSp k.data.toList := by
  simp only [nameL, Bool.and_eq_true] at h
  rw [Lib.toList_data] at h
  have hl : ∀ (l : List UInt8) (f : Bool), lettersF f l = true → noSp l := by
    intro l
    induction l with
    | nil => intro _ _ c hc; cases hc
    | cons x r ih =>
      intro f hf c hc
      simp only [lettersF, Bool.and_eq_true] at hf
      rcases List.mem_cons.1 hc with rfl | hc
      · intro e
        subst e
        have := hf.1
        cases f <;> exact absurd this (by decide)
      · exact ih false hf.2 c hc
  exact hl _ _ h.2
theorem num_noSp {n : Int} (h : isNum n = true) : noSp (numB n).data.toList := by
  have h1 := isNum_bd h
  have h2 := (pn_hit h1.1 h1.2 rfl).2
  intro c hc
  exact (num_no h2 c hc).2.1
def hasK' : List (List UInt8) → List UInt8 → Bool
  | [], _ => false
  | x :: r, s => if x == s then true else hasK' r s
theorem hasT_meth' (s : List UInt8) : ∀ m : List (List UInt8), hasT (m.map fun l => ⟨l.toArray⟩) s = hasK' m s
  | [] => rfl
  | x :: r => by rw [List.map_cons, hasT, hasK', Lib.toList_data, hasT_meth' s r]
theorem hasK_mem {s : List UInt8} : ∀ {m : List (List UInt8)}, hasK' m s = true → s ∈ m
  | [], h => by cases h
  | x :: r, h => by
    rw [hasK'] at h
    split at h
    · rename_i he
      have : x = s := by simpa using he
      simp [this]
    · exact List.mem_cons_of_mem _ (hasK_mem h)
theorem abFrom_mem {s : List UInt8} : ∀ n k : Nat, 0 ≤ abFrom s k n → ∃ j, j < k + n ∧ s ∈ meth j
  | 0, k, h => by simp [abFrom] at h
  | n + 1, k, h => by
    rw [abFrom] at h
    split at h
    · rename_i he
      rw [methB, hasT_meth'] at he
      exact ⟨k, by omega, hasK_mem he⟩
    · obtain ⟨j, h1, h2⟩ := abFrom_mem n (k + 1) h
      exact ⟨j, by omega, h2⟩
theorem meth_plain : ∀ j : Nat, j < 6 → (meth j).all (fun s => s.all (fun c => c != 32) && !(s == [])) = true := by decide
theorem ab_plain {s : List UInt8} (h : 0 ≤ abOf s) : noSp s ∧ s ≠ [] := by
  obtain ⟨j, h1, h2⟩ := abFrom_mem 6 0 h
  have h3 := List.all_eq_true.1 (meth_plain j (by omega)) s h2
  simp only [Bool.and_eq_true, Bool.not_eq_true', beq_eq_false_iff_ne] at h3
  refine ⟨fun c hc => ?_, h3.2⟩
  have := List.all_eq_true.1 h3.1 c hc
  simpa using this
theorem bytes_nil {t : ByteArray} (h : t.toList = []) : t = nulB := by
  rw [Lib.toList_data] at h
  exact ofD h
theorem bytes_of {t : ByteArray} {l : List UInt8} (h : (t.toList == l) = true) : t = ⟨l.toArray⟩ := by
  have h' : t.toList = l := by simpa using h
  rw [Lib.toList_data] at h'
  exact ofD h'
theorem mk_list (l : List UInt8) : (⟨l.toArray⟩ : ByteArray).toList = l := by rw [Lib.toList_data]
theorem back (t : ByteArray) : (⟨t.data.toList.toArray⟩ : ByteArray) = t := Lib.mk_data t
theorem pn_numB {n : Int} (h : isNum n = true) : pnV (numB n).toList = n := by
  have h1 := isNum_bd h
  rw [numB, mk_list]
  exact (pn_hit h1.1 h1.2 rfl).1
theorem join_one' (x : ByteArray) : joinB spB [x] = x := by
  rw [← joinB_lib]
  simp [Lib.join_one]
/-- both candidates give a valid call back from its text -/
theorem cand_back {x : CallD} (h : callB x = true) : candI (callT x) = x ∧ candS (callT x) = x ∧ (callT x).toList ≠ [] := by
  obtain ⟨method, key, value, text⟩ := x
  have hT : callT ⟨method, key, value, text⟩ = callTo (method.toList == mGet) (method.toList == mPut) (method.toList == mHear) (method.toList == mLoad) ⟨method, key, value, text⟩ := by rw [callT, if_pos h]
  rw [callB] at h
  rcases method_cases method.toList with ⟨hg, hp, hh, hl⟩ | ⟨hg, hp, hh, hl⟩ | ⟨hg, hp, hh, hl⟩ | ⟨hg, hp, hh, hl⟩ | ⟨hg, hp, hh, hl⟩
  all_goals
    rw [hT, hg, hp, hh, hl]
    rw [hg, hp, hh, hl] at h
    simp only [callOf, Bool.and_eq_true, Bool.or_eq_true, Bool.false_eq_true, if_false, if_true, or_false, or_true, and_true] at h
    simp only [callTo, Bool.false_eq_true, if_false, if_true]
    clear hT
  · -- Get
    obtain ⟨⟨_, ht⟩, hk, hv⟩ := h
    obtain rfl := bytes_of hg
    obtain rfl := bytes_nil (by simpa using ht)
    obtain rfl : value = 0 := by simpa using hv
    have e : ((⟨#[71, 101, 116, 32]⟩ : ByteArray) ++ key).data.toList = [71, 101, 116] ++ 32 :: key.data.toList := by simp [ByteArray.data_append]
    have hn : noSp ([71, 101, 116] : List UInt8) := by unfold noSp; decide
    obtain ⟨c1, c2⟩ := cut_sp e hn
    have hs := split_sp e hn
    rw [back] at c2 hs
    rw [split_all (name_noSp hk)] at hs
    refine ⟨?_, ?_, ?_⟩
    · rw [candI, c1, c2, mk_list]; rfl
    · rw [candS, hs, candL]; simp only [List.headD, mk_list]; rfl
    · rw [Lib.toList_data, e]; simp
  · -- Put
    obtain ⟨⟨_, ht⟩, hk, hv⟩ := h
    obtain rfl := bytes_of hp
    obtain rfl := bytes_nil (by simpa using ht)
    have e : ((⟨#[80, 117, 116, 32]⟩ : ByteArray) ++ key ++ ⟨#[32]⟩ ++ numB value).data.toList = [80, 117, 116] ++ 32 :: (key.data.toList ++ 32 :: (numB value).data.toList) := by simp [ByteArray.data_append]
    have hn : noSp ([80, 117, 116] : List UInt8) := by unfold noSp; decide
    obtain ⟨c1, c2⟩ := cut_sp e hn
    obtain ⟨d1, d2⟩ := cut_sp (s := ⟨(key.data.toList ++ 32 :: (numB value).data.toList).toArray⟩) rfl (name_noSp hk)
    have hs := split_sp e hn
    rw [split_sp (s := ⟨(key.data.toList ++ 32 :: (numB value).data.toList).toArray⟩) rfl (name_noSp hk), back, back, split_all (num_noSp hv)] at hs
    rw [back] at d1 d2
    refine ⟨?_, ?_, ?_⟩
    · rw [candI, c1, c2, mk_list]
      simp only [candF, d1, d2, pn_numB hv]; rfl
    · rw [candS, hs, candL]
      simp only [List.headD, mk_list]
      show candG false true false false _ (numB value) _ = _
      simp only [candG, Bool.false_eq_true, if_false, if_true, pn_numB hv]
      show CallD.mk _ (joinB spB [key]) _ _ = _
      rw [join_one']; rfl
    · rw [Lib.toList_data, e]; simp
  · -- Hear
    obtain ⟨⟨_, ht⟩, hk, hv⟩ := h
    obtain rfl := bytes_of hh
    obtain rfl := bytes_nil (by simpa using ht)
    obtain rfl := bytes_nil (by simpa using hk)
    have e : ((⟨#[72, 101, 97, 114, 32]⟩ : ByteArray) ++ numB value).data.toList = [72, 101, 97, 114] ++ 32 :: (numB value).data.toList := by simp [ByteArray.data_append]
    have hn : noSp ([72, 101, 97, 114] : List UInt8) := by unfold noSp; decide
    obtain ⟨c1, c2⟩ := cut_sp e hn
    have hs := split_sp e hn
    rw [back] at c2 hs
    rw [split_all (num_noSp hv)] at hs
    refine ⟨?_, ?_, ?_⟩
    · rw [candI, c1, c2, mk_list]
      show CallD.mk _ _ (pnV (numB value).toList) _ = _
      rw [pn_numB hv]; rfl
    · rw [candS, hs, candL]
      simp only [List.headD, mk_list]
      show CallD.mk _ _ (pnV (numB value).toList) _ = _
      rw [pn_numB hv]; rfl
    · rw [Lib.toList_data, e]; simp
  · -- Load
    obtain ⟨_, hk, hv⟩ := h
    obtain rfl := bytes_of hl
    obtain rfl := bytes_nil (by simpa using hk)
    obtain rfl : value = 0 := by simpa using hv
    have e : ((⟨#[76, 111, 97, 100, 32]⟩ : ByteArray) ++ text).data.toList = [76, 111, 97, 100] ++ 32 :: text.data.toList := by simp [ByteArray.data_append]
    have hn : noSp ([76, 111, 97, 100] : List UInt8) := by unfold noSp; decide
    obtain ⟨c1, c2⟩ := cut_sp e hn
    have hs := split_sp e hn
    rw [back] at c2 hs
    refine ⟨?_, ?_, ?_⟩
    · rw [candI, c1, c2, mk_list]; rfl
    · rw [candS, hs, candL]
      simp only [List.headD, mk_list]
      show CallD.mk _ _ _ (joinB spB (splitA spB text)) = _
      rw [join_split spB _ text (Nat.le_refl _)]; rfl
    · rw [Lib.toList_data, e]; simp
  · -- others
    obtain ⟨⟨hab, ht⟩, hk, hv⟩ := h
    obtain rfl := bytes_nil (by simpa using ht)
    obtain rfl := bytes_nil (by simpa using hk)
    obtain rfl : value = 0 := by simpa using hv
    obtain ⟨hn, hne⟩ := ab_plain (s := method.toList) (by simpa using hab)
    rw [Lib.toList_data] at hn
    obtain ⟨c1, c2⟩ := cut_all hn
    have hs := split_all hn
    refine ⟨?_, ?_, hne⟩
    · rw [candI, c1, c2, hg, hp, hh, hl]; rfl
    · rw [candS, hs, candL]
      simp only [List.headD]
      rw [hg, hp, hh, hl]; rfl
theorem good_iff {c : CallD} {s : ByteArray} (h : goodC c s = true) : callT c = s := by
  simp only [goodC, Bool.and_eq_true] at h
  have h2 : (callT c).toList = s.toList := by simpa using h.2
  rw [Lib.toList_data, Lib.toList_data] at h2
  rw [ofD h2, Lib.mk_data]
/-- the reference's test, and the program's -/
theorem spec_good {s : ByteArray} (h : ((callT (candS s)).toList == s.toList) = true) (hne : (s.toList == []) = false) : pcallB s = true ∧ pcallC s = candS s := by
  rcases hb : callB (candS s) with _ | _
  · have e : callT (candS s) = nulB := by rw [callT, hb]; rfl
    rw [e] at h
    have h2 : (nulB : ByteArray).toList = s.toList := by simpa using h
    rw [← h2] at hne
    exact absurd hne (by rw [nulB, mk_list]; decide)
  · have hgood : goodC (candS s) s = true := by rw [goodC, hb, h]; rfl
    have he := good_iff hgood
    obtain ⟨h1, h2, _⟩ := cand_back hb
    rw [he] at h1
    have hI : pcallB s = true := by rw [pcallB, h1]; exact hgood
    exact ⟨hI, by rw [pcallC, if_pos hI, h1]⟩
theorem spec_bad {s : ByteArray} (h : ((callT (candS s)).toList == s.toList) = false ∨ (s.toList == []) = true) : pcallB s = false ∧ pcallC s = nulC := by
  have hB : pcallB s = false := by
    rw [Bool.eq_false_iff]
    intro hc
    have hb : callB (candI s) = true := by simp only [pcallB, goodC, Bool.and_eq_true] at hc; exact hc.1
    have he := good_iff hc
    obtain ⟨_, h2, h3⟩ := cand_back hb
    rw [he] at h2 h3
    rcases h with h | h
    · rw [h2, he] at h
      simp at h
    · exact h3 (by simpa using h)
  exact ⟨hB, by rw [pcallC, hB]; rfl⟩
theorem joinB_sz (sep : ByteArray) (l : List ByteArray) : (joinB sep l).size ≤ l.length * sep.size + tot l := by
  rw [← joinB_lib]
  exact Nat.le_trans (Nat.le_of_eq (by simp [ByteArray.size])) (joinLen sep l)
theorem join_rest (s m : ByteArray) (rest : List ByteArray) (h : splitA spB s = m :: rest) : (joinB spB rest).size ≤ s.size := by
  have hj := join_split spB _ s (Nat.le_refl _)
  rw [h] at hj
  rcases rest with _ | ⟨y, r⟩
  · exact Nat.zero_le _
  · have h1 := congrArg (fun t : ByteArray => t.data.toList.length) hj
    simp only [joinB_data, List.map_cons, join_two, List.length_append] at h1
    have h2 : (joinB spB (y :: r)).data.toList.length = (joinB spB (y :: r)).size := rfl
    rw [joinB_data, List.map_cons] at h2
    have h3 : s.data.toList.length = s.size := rfl
    omega
end Go.Proofs.YtllmcnmongaahaaGreatDoor.Pu
/- What a call does to a core, in plain Lean. -/
namespace Go.Proofs.YtllmcnmongaahaaGreatDoor.Pu
def mStart : List UInt8 := [83, 116, 97, 114, 116]
def mStop : List UInt8 := [83, 116, 111, 112]
def mTell : List UInt8 := [84, 101, 108, 108]
def mHeal : List UInt8 := [72, 101, 97, 108]
def mSave : List UInt8 := [83, 97, 118, 101]
def doF (p : CoreD) (x : CallD) : CoreD × ReplyD :=
  if p.broken && !(x.method.toList == mHeal) && !(x.method.toList == mTell) then (p, rp 3 0)
  else if x.method.toList == mGet then keepF true p x
  else if x.method.toList == mPut then keepF false p x
  else if x.method.toList == mTell then (p, rp 0 p.count)
  else if x.method.toList == mHear then (⟨p.kind, (x.value == 1) || (p.on && !(x.value == 0)), p.broken, p.cells, upF p.count⟩, rp 0 (upF p.count))
  else if x.method.toList == mSave then (p, ⟨0, 0, cellsT p.cells, 0, 0⟩)
  else if x.method.toList == mLoad then (if pcOk x.text then (⟨p.kind, p.on, p.broken, pcL x.text, p.count⟩, rp 0 (pcL x.text).length) else (p, rp 6 0))
  else if x.method.toList == mHeal then (⟨p.kind, false, false, p.cells, p.count⟩, rp 0 0)
  else if x.method.toList == mStop then (if p.on then (⟨p.kind, false, p.broken, p.cells, p.count⟩, rp 0 0) else (p, rp 2 0))
  else if p.on then (⟨p.kind, false, true, p.cells, p.count⟩, rp 3 0) else (⟨p.kind, true, p.broken, p.cells, upF p.count⟩, rp 0 0)
def callF (p : CoreD) (x : CallD) : CoreD × ReplyD :=
  if coreB p && callB x then (if offersB (faceK p) (wantF x.method.toList) then doF p x else (p, ⟨1, 0, nulB, wantF x.method.toList, faceK p⟩)) else (p, rp 7 0)
/-! ## Cores that are valid -/
structure Good (p : CoreD) : Prop where
  kind : kindOk p.kind.toList = true
  cells : cellsB p.cells = true
  room : 0 < p.cells.length → hasB (faceK p) 1 = true
  count : isNum p.count = true
  one : p.on = false ∨ p.broken = false
  runs : hasB (faceK p) 0 = true ∨ (p.on = false ∧ p.broken = false)
theorem good_iff' {p : CoreD} : coreB p = true ↔ Good p := by
  unfold coreB
  simp only [Bool.and_eq_true, Bool.not_eq_true', Bool.and_eq_false_iff, Bool.or_eq_true, decide_eq_false_iff_not, Bool.not_eq_false']
  constructor
  · rintro ⟨⟨⟨⟨⟨h1, h2⟩, h3⟩, h4⟩, h5⟩, h6⟩
    exact ⟨h1, h2, fun h => h3.resolve_left (fun e => e h), h4, h5, h6⟩
  · rintro ⟨h1, h2, h3, h4, h5, h6⟩
    refine ⟨⟨⟨⟨⟨h1, h2⟩, ?_⟩, h4⟩, h5⟩, h6⟩
    by_cases h : 0 < p.cells.length
    · exact .inr (h3 h)
    · exact .inl h
theorem up_num {n : Int} (h : isNum n = true) : isNum (upF n) = true := by
  simp only [isNum, Bool.and_eq_true, decide_eq_true_eq] at h ⊢
  unfold upF
  split <;> omega
theorem bit_of : ∀ n : Nat, n < 64 → ∀ k : Nat, k < 6 → offersB (n : Int) (2 ^ k) = true → hasB (n : Int) k = true := by decide +kernel
theorem want_bit {p : CoreD} {m : List UInt8} {k : Nat} (hk : k < 6) (hm : abOf m = k) (h : offersB (faceK p) (wantF m) = true) : hasB (faceK p) k = true := by
  have hb := kind_bd p.kind.toList
  rw [wantF, if_neg (by omega), hm, Int.toNat_natCast] at h
  unfold faceK at *
  generalize kindF p.kind.toList = f at *
  obtain ⟨n, rfl⟩ := Int.eq_ofNat_of_zero_le hb.1
  exact bit_of n (by omega) k hk h
theorem ab_consts : abOf mStart = 0 ∧ abOf mStop = 0 ∧ abOf mGet = 1 ∧ abOf mPut = 1 ∧ abOf mTell = 2 ∧ abOf mHear = 3 ∧ abOf mLoad = 4 ∧ abOf mSave = 4 ∧ abOf mHeal = 5 := by decide +kernel
theorem hear_runs {p : CoreD} (h : hasB (faceK p) 3 = true) : hasB (faceK p) 0 = true := by
  unfold faceK at *
  rcases kind_faces p.kind.toList with e | e | e | e | e | e | e | e <;> rw [e] at h ⊢ <;> revert h <;> decide
theorem load_cells {p : CoreD} (h : hasB (faceK p) 4 = true) : hasB (faceK p) 1 = true := by
  unfold faceK at *
  rcases kind_faces p.kind.toList with e | e | e | e | e | e | e | e <;> rw [e] at h ⊢ <;> revert h <;> decide
theorem pcL_cells (s : ByteArray) : cellsB (pcL s) = true := by
  unfold pcL
  split
  · rfl
  · rename_i h
    split
    · rename_i h2
      rw [pcOk, if_neg h, Bool.and_eq_true] at h2
      exact h2.2
    · rfl
/-- what a valid call is known by, where its core offers it -/
theorem call_put {x : CallD} (h : callB x = true) (hm : (x.method.toList == mPut) = true) : nameL x.key.toList = true ∧ isNum x.value = true := by
  rw [callB] at h
  rcases method_cases x.method.toList with ⟨hg, hp, hh, hl⟩ | ⟨hg, hp, hh, hl⟩ | ⟨hg, hp, hh, hl⟩ | ⟨hg, hp, hh, hl⟩ | ⟨hg, hp, hh, hl⟩ <;> rw [hp] at hm <;> cases hm
  rw [hg, hp, hh, hl, callOf] at h
  simp at h
  exact h.2
theorem call_known {x : CallD} (h : callB x = true) : 0 ≤ abOf x.method.toList := by
  rw [callB, callOf] at h
  simp only [Bool.and_eq_true, Bool.not_eq_true', decide_eq_false_iff_not] at h
  omega
theorem meth_list : ∀ j : Nat, j < 6 → (meth j).all (fun s => s == mStart || s == mStop || s == mGet || s == mPut || s == mTell || s == mHear || s == mLoad || s == mSave || s == mHeal) = true := by decide
theorem call_cases {x : CallD} (h : callB x = true) : x.method.toList = mStart ∨ x.method.toList = mStop ∨ x.method.toList = mGet ∨ x.method.toList = mPut ∨ x.method.toList = mTell ∨ x.method.toList = mHear ∨ x.method.toList = mLoad ∨ x.method.toList = mSave ∨ x.method.toList = mHeal := by
  obtain ⟨j, h1, h2⟩ := abFrom_mem 6 0 (call_known h)
  have h3 := List.all_eq_true.1 (meth_list j (by omega)) _ h2
  simp only [Bool.or_eq_true, beq_iff_eq] at h3
  rcases h3 with (((((((h | h) | h) | h) | h) | h) | h) | h) | h
  · exact .inl h
  · exact .inr (.inl h)
  · exact .inr (.inr (.inl h))
  · exact .inr (.inr (.inr (.inl h)))
  · exact .inr (.inr (.inr (.inr (.inl h))))
  · exact .inr (.inr (.inr (.inr (.inr (.inl h)))))
  · exact .inr (.inr (.inr (.inr (.inr (.inr (.inl h))))))
  · exact .inr (.inr (.inr (.inr (.inr (.inr (.inr (.inl h)))))))
  · exact .inr (.inr (.inr (.inr (.inr (.inr (.inr (.inr h)))))))
theorem putC_cells {p : CoreD} {k : ByteArray} {v : Int} (hp : cellsB p.cells = true) (hk : nameL k.toList = true) (hv : isNum v = true) (hr : hit k p.cells = true ∨ p.cells.length < 4) : cellsB (putC k v p.cells) = true := by
  simp only [cellsB, Bool.and_eq_true, decide_eq_true_eq] at hp ⊢
  refine ⟨?_, putC_ok hk hv hp.2 rfl⟩
  rw [putC_len]
  split <;> rcases hr with h | h <;> simp_all <;> omega
/-- a valid core stays valid, and of its kind; what is refused changes nothing -/
theorem keepF_good {p : CoreD} {x : CallD} {get : Bool} (hp : Good p) (hb : hasB (faceK p) 1 = true) (hx : get = false → nameL x.key.toList = true ∧ isNum x.value = true) :
    Good (keepF get p x).1 ∧ (keepF get p x).1.kind = p.kind ∧ ((keepF get p x).2.code = 0 ∨ (keepF get p x).1 = p) := by
  unfold keepF
  split
  · exact ⟨hp, rfl, .inr rfl⟩
  · split
    · split
      · exact ⟨hp, rfl, .inr rfl⟩
      · exact ⟨hp, rfl, .inr rfl⟩
    · rename_i hg
      split
      · exact ⟨hp, rfl, .inr rfl⟩
      · rename_i hf
        obtain ⟨h1, h2⟩ := hx (by simpa using hg)
        refine ⟨⟨hp.kind, putC_cells hp.cells h1 h2 ?_, fun _ => hb, up_num hp.count, hp.one, hp.runs⟩, rfl, .inl rfl⟩
        rcases hh : hit x.key p.cells with _ | _
        · right
          rw [hh] at hf
          simp at hf
          omega
        · exact .inl rfl
theorem doF_good {p : CoreD} {x : CallD} (hp : Good p) (hx : callB x = true) (ho : offersB (faceK p) (wantF x.method.toList) = true) :
    Good (doF p x).1 ∧ (doF p x).1.kind = p.kind ∧ ((doF p x).2.code = 0 ∨ (doF p x).2.code = 3 ∨ (doF p x).1 = p) := by
  obtain ⟨a1, a2, a3, a4, a5, a6, a7, a8, a9⟩ := ab_consts
  unfold doF
  split
  · exact ⟨hp, by trivial, .inr (.inr (by trivial))⟩
  rename_i hbr
  rcases call_cases hx with e | e | e | e | e | e | e | e | e
  all_goals rw [e] at ho hbr ⊢
  · -- Start
    have h0 := want_bit (by decide) a1 ho
    have hb : p.broken = false := by
      rcases hq : p.broken with _ | _
      · rfl
      · rw [hq] at hbr; exact absurd (by decide) hbr
    simp only [show (mStart == mGet) = false by decide, show (mStart == mPut) = false by decide, show (mStart == mTell) = false by decide, show (mStart == mHear) = false by decide, show (mStart == mSave) = false by decide, show (mStart == mLoad) = false by decide, show (mStart == mHeal) = false by decide, show (mStart == mStop) = false by decide, Bool.false_eq_true, if_false]
    split
    · exact ⟨⟨hp.kind, hp.cells, hp.room, hp.count, .inl rfl, .inl h0⟩, by trivial, .inr (.inl (by trivial))⟩
    · exact ⟨⟨hp.kind, hp.cells, hp.room, up_num hp.count, .inr hb, .inl h0⟩, by trivial, .inl (by trivial)⟩
  · -- Stop
    have h0 := want_bit (by decide) a2 ho
    simp only [show (mStop == mGet) = false by decide, show (mStop == mPut) = false by decide, show (mStop == mTell) = false by decide, show (mStop == mHear) = false by decide, show (mStop == mSave) = false by decide, show (mStop == mLoad) = false by decide, show (mStop == mHeal) = false by decide, show (mStop == mStop) = true by decide, Bool.false_eq_true, if_false, if_true]
    split
    · exact ⟨⟨hp.kind, hp.cells, hp.room, hp.count, .inl rfl, .inl h0⟩, by trivial, .inl (by trivial)⟩
    · exact ⟨hp, by trivial, .inr (.inr (by trivial))⟩
  · -- Get
    have h1 := want_bit (by decide) a3 ho
    simp only [show (mGet == mGet) = true by decide, if_true]
    obtain ⟨g1, g2, g3⟩ := keepF_good (get := true) (x := x) hp h1 (fun h => by cases h)
    exact ⟨g1, g2, g3.elim .inl (fun h => .inr (.inr h))⟩
  · -- Put
    have h1 := want_bit (by decide) a4 ho
    simp only [show (mPut == mGet) = false by decide, show (mPut == mPut) = true by decide, Bool.false_eq_true, if_false, if_true]
    obtain ⟨g1, g2, g3⟩ := keepF_good (get := false) (x := x) hp h1 (fun _ => call_put hx (by rw [e]; decide))
    exact ⟨g1, g2, g3.elim .inl (fun h => .inr (.inr h))⟩
  · -- Tell
    simp only [show (mTell == mGet) = false by decide, show (mTell == mPut) = false by decide, show (mTell == mTell) = true by decide, Bool.false_eq_true, if_false, if_true]
    exact ⟨hp, by trivial, .inr (.inr (by trivial))⟩
  · -- Hear
    have h0 := hear_runs (want_bit (by decide) a6 ho)
    have hb : p.broken = false := by
      rcases hq : p.broken with _ | _
      · rfl
      · rw [hq] at hbr; exact absurd (by decide) hbr
    simp only [show (mHear == mGet) = false by decide, show (mHear == mPut) = false by decide, show (mHear == mTell) = false by decide, show (mHear == mHear) = true by decide, Bool.false_eq_true, if_false, if_true]
    exact ⟨⟨hp.kind, hp.cells, hp.room, up_num hp.count, .inr hb, .inl h0⟩, by trivial, .inl (by trivial)⟩
  · -- Load
    have h1 := load_cells (want_bit (by decide) a7 ho)
    simp only [show (mLoad == mGet) = false by decide, show (mLoad == mPut) = false by decide, show (mLoad == mTell) = false by decide, show (mLoad == mHear) = false by decide, show (mLoad == mSave) = false by decide, show (mLoad == mLoad) = true by decide, Bool.false_eq_true, if_false, if_true]
    split
    · exact ⟨⟨hp.kind, pcL_cells _, fun _ => h1, hp.count, hp.one, hp.runs⟩, by trivial, .inl (by trivial)⟩
    · exact ⟨hp, by trivial, .inr (.inr (by trivial))⟩
  · -- Save
    simp only [show (mSave == mGet) = false by decide, show (mSave == mPut) = false by decide, show (mSave == mTell) = false by decide, show (mSave == mHear) = false by decide, show (mSave == mSave) = true by decide, Bool.false_eq_true, if_false, if_true]
    exact ⟨hp, by trivial, .inr (.inr (by trivial))⟩
  · -- Heal
    simp only [show (mHeal == mGet) = false by decide, show (mHeal == mPut) = false by decide, show (mHeal == mTell) = false by decide, show (mHeal == mHear) = false by decide, show (mHeal == mSave) = false by decide, show (mHeal == mLoad) = false by decide, show (mHeal == mHeal) = true by decide, Bool.false_eq_true, if_false, if_true]
    exact ⟨⟨hp.kind, hp.cells, hp.room, hp.count, .inl rfl, .inr ⟨rfl, rfl⟩⟩, by trivial, .inl (by trivial)⟩
theorem callF_good {p : CoreD} {x : CallD} (hp : coreB p = true) :
    coreB (callF p x).1 = true ∧ (callF p x).1.kind = p.kind ∧ ((callF p x).2.code = 0 ∨ (callF p x).2.code = 3 ∨ (callF p x).1 = p) := by
  have hG := good_iff'.1 hp
  unfold callF
  rw [hp, Bool.true_and]
  split
  · rename_i hx
    split
    · rename_i ho
      obtain ⟨g1, g2, g3⟩ := doF_good hG hx ho
      exact ⟨good_iff'.2 g1, g2, g3⟩
    · exact ⟨hp, rfl, .inr (.inr rfl)⟩
  · exact ⟨hp, rfl, .inr (.inr rfl)⟩
end Go.Proofs.YtllmcnmongaahaaGreatDoor.Pu
/- Cells and calls are read from what is written, in plain Lean. -/
namespace Go.Proofs.YtllmcnmongaahaaGreatDoor.Pu
theorem index_atC {c : UInt8} {a b : List UInt8} (h : ∀ x ∈ a, x ≠ c) : Lib.index (a ++ c :: b) [c] = (a.length : Int) := by
  induction a with
  | nil => simp [Lib.index, List.isPrefixOf]
  | cons x r ih =>
    have hx : x ≠ c := h x (by simp)
    have ih' := ih fun y hy => h y (by simp [hy])
    rw [List.cons_append, Lib.index]
    have h1 : ([c] : List UInt8).isPrefixOf (x :: (r ++ c :: b)) = false := by simp [List.isPrefixOf, Ne.symm hx]
    rw [h1, ih']
    simp
theorem split_atC {c : UInt8} {s : ByteArray} {a b : List UInt8} (hs : s.data.toList = a ++ c :: b) (h : ∀ x ∈ a, x ≠ c) : splitA ⟨#[c]⟩ s = ⟨a.toArray⟩ :: splitA ⟨#[c]⟩ ⟨b.toArray⟩ := by
  have hi : Lib.indexB s ⟨#[c]⟩ = (a.length : Int) := by
    show Lib.index s.data.toList [c] = _
    rw [hs, index_atC h]
  have e1 : (⟨#[c]⟩ : ByteArray).size = 1 := rfl
  have e2 : s.extract 0 a.length = ⟨a.toArray⟩ := ofD (by rw [Lib.extract_from_zero, hs]; simp)
  have e3 : s.extract (a.length + 1) s.size = ⟨b.toArray⟩ := ofD (by rw [drop_ext, hs]; simp)
  rw [splitA_hit (by rw [e1]; exact Nat.le_refl _) hi, e1, e2, e3]
theorem split_join {c : UInt8} : ∀ {L : List ByteArray}, L ≠ [] → (∀ x ∈ L, ∀ b ∈ x.data.toList, b ≠ c) → splitA ⟨#[c]⟩ (joinB ⟨#[c]⟩ L) = L
  | [], h, _ => absurd rfl h
  | [x], _, h => by
    have e : joinB ⟨#[c]⟩ [x] = x := ext_same (by rw [joinB_data]; exact Lib.join_one _ _)
    rw [e]
    exact splitA_miss (Nat.le_refl 1) (none_index (h x (by simp)))
  | x :: y :: r, _, h => by
    have ih := split_join (c := c) (L := y :: r) (by simp) fun z hz => h z (by simp [hz])
    have e : (joinB ⟨#[c]⟩ (x :: y :: r)).data.toList = x.data.toList ++ c :: (joinB ⟨#[c]⟩ (y :: r)).data.toList := by
      rw [joinB_data, joinB_data, List.map_cons, List.map_cons, join_two]
      simp
    rw [split_atC e (h x (by simp)), back, back, ih]
theorem cut_atC {c : UInt8} {a b : List UInt8} (h : ∀ x ∈ a, x ≠ c) : Lib.cut (a ++ c :: b) [c] = (a, b, true) := by
  rw [Lib.cut, index_atC h, if_pos (by omega)]
  simp
theorem cellT_data (c : CellD) : (cellT c).data.toList = c.key.data.toList ++ 61 :: (numB c.val).data.toList := by
  rw [cellT]; simp [ByteArray.data_append]
theorem name_plain {k : ByteArray} (h : nameL k.toList = true) : ∀ b ∈ k.data.toList, b ≠ 61 ∧ b ≠ 44 ∧ b ≠ 45 := by
  simp only [nameL, Bool.and_eq_true] at h
  rw [Lib.toList_data] at h
  have hl : ∀ (l : List UInt8) (f : Bool), lettersF f l = true → ∀ b ∈ l, b ≠ 61 ∧ b ≠ 44 ∧ b ≠ 45 := by
    intro l
    induction l with
    | nil => intro _ _ c hc; cases hc
    | cons x r ih =>
      intro f hf c hc
      simp only [lettersF, Bool.and_eq_true] at hf
      rcases List.mem_cons.1 hc with rfl | hc
      · refine ⟨?_, ?_, ?_⟩ <;> (intro e; subst e; have := hf.1; cases f <;> exact absurd this (by decide))
      · exact ih false hf.2 c hc
  exact hl _ _ h.2
theorem num_plain {n : Int} (h : isNum n = true) : ∀ b ∈ (numB n).data.toList, b ≠ 61 ∧ b ≠ 32 ∧ b ≠ 44 := by
  have h1 := isNum_bd h
  exact num_no (pn_hit h1.1 h1.2 rfl).2
theorem cell_back {c : CellD} (hk : nameL c.key.toList = true) (hv : isNum c.val = true) : okC (cellT c) = true ∧ mkC (cellT c) = c := by
  have e : Lib.cut (cellT c).data.toList [61] = (c.key.data.toList, (numB c.val).data.toList, true) := by
    rw [cellT_data, cut_atC fun b hb => (name_plain hk b hb).1]
  have h1 := isNum_bd hv
  have h2 := pn_hit (s := (numB c.val).toList) h1.1 h1.2 (by rw [numB, mk_list])
  have eK : cutK (cellT c) = c.key := by rw [cutK, e]
  have eV : cutV (cellT c) = numB c.val := by rw [cutV, e]
  have eO : cutO (cellT c) = true := by rw [cutO, e]
  refine ⟨by rw [okC, eO, eV, h2.2]; rfl, ?_⟩
  rw [mkC, eK, eV, h2.1]
theorem cells_each : ∀ {l : List CellD} {p : Option ByteArray}, cellsFrom p l = true → ∀ c ∈ l, nameL c.key.toList = true ∧ isNum c.val = true
  | [], _, _, _, h => by cases h
  | x :: r, p, h, c, hc => by
    rw [cells_cons] at h
    rcases List.mem_cons.1 hc with rfl | hc
    · exact ⟨h.1, h.2.1⟩
    · exact cells_each h.2.2.2 c hc
theorem cells_back {l : List CellD} (h : cellsB l = true) : pcOk (cellsT l) = true ∧ pcL (cellsT l) = l := by
  rcases l with _ | ⟨c, r⟩
  · have h1 : ((cellsT []).toList == [45]) = true := by
      rw [show cellsT [] = ⟨([45] : List UInt8).toArray⟩ from rfl, mk_list]; rfl
    exact pc_dash h1
  · have hc : cellsFrom none (c :: r) = true := by
      rw [cellsB, Bool.and_eq_true] at h; exact h.2
    have hE := cells_each hc
    have hT : cellsT (c :: r) = joinB commaB ((c :: r).map cellT) := by rw [cellsT, if_pos h, if_neg (by simp)]; rfl
    have hno : ∀ x ∈ (c :: r).map cellT, ∀ b ∈ x.data.toList, b ≠ 44 := by
      intro x hx b hb
      obtain ⟨y, hy, rfl⟩ := List.mem_map.1 hx
      obtain ⟨h1, h2⟩ := hE y hy
      rw [cellT_data] at hb
      rcases List.mem_append.1 hb with hb | hb
      · exact (name_plain h1 b hb).2.1
      · rcases List.mem_cons.1 hb with rfl | hb
        · decide
        · exact (num_plain h2 b hb).2.2
    have hS : splitA commaB (cellsT (c :: r)) = (c :: r).map cellT := by rw [hT]; exact split_join (by simp) hno
    have hM : ((c :: r).map cellT).map mkC = c :: r := by
      rw [List.map_map]
      conv => rhs; rw [← List.map_id (c :: r)]
      exact List.map_congr_left fun x hx => (cell_back (hE x hx).1 (hE x hx).2).2
    have hA : ((c :: r).map cellT).all okC = true := by
      rw [List.all_eq_true]
      intro x hx
      obtain ⟨y, hy, rfl⟩ := List.mem_map.1 hx
      exact (cell_back (hE y hy).1 (hE y hy).2).1
    have hd : ((cellsT (c :: r)).toList == [45]) = false := by
      rw [Bool.eq_false_iff]
      intro hq
      have h1 : (cellsT (c :: r)).toList = [45] := by simpa using hq
      have h2 : splitA commaB (cellsT (c :: r)) = [⟨#[45]⟩] := by
        rw [Lib.toList_data] at h1
        rw [ofD h1]; exact splitA_miss (Nat.le_refl 1) (none_index (by simp))
      rw [hS] at h2
      rcases r with _ | ⟨y, r⟩
      · have h3 : cellT c = ⟨#[45]⟩ := by simpa using h2
        have h4 := cellT_data c
        rw [h3] at h4
        have hk := (hE c (by simp)).1
        rcases hk2 : c.key.data.toList with _ | ⟨b, t⟩
        · rw [hk2] at h4; simp at h4
        · rw [hk2] at h4; simp at h4
      · simp at h2
    have hp := pc_cells hd (by rw [hS]; exact hA)
    rw [hS, hM, h] at hp
    exact ⟨hp.1, by rw [hp.2, if_pos rfl]⟩
theorem cells_none {l : List CellD} (h : cellsB l = false) : cellsT l = nulB ∧ pcOk (cellsT l) = false := by
  have e : cellsT l = nulB := by rw [cellsT, h]; rfl
  have hs : splitA commaB nulB = [nulB] := splitA_miss (Nat.le_refl 1) (none_index (by simp [nulB]))
  have hi : Lib.indexB nulB eqB = -1 := none_index (by simp [nulB])
  have hd : ((nulB : ByteArray).toList == [45]) = false := by rw [show nulB = ⟨([] : List UInt8).toArray⟩ from rfl, mk_list]; rfl
  exact ⟨e, by rw [e]; exact (pc_bad (k := 0) (x := nulB) hd (by rw [hs]; rfl) (by rw [okC, (cut_miss hi).2.2]; rfl)).1⟩
theorem call_back {x : CallD} (h : callB x = true) : pcallB (callT x) = true ∧ pcallC (callT x) = x := by
  obtain ⟨h1, _, _⟩ := cand_back h
  have hB : pcallB (callT x) = true := by rw [pcallB, h1, goodC, h]; simp
  exact ⟨hB, by rw [pcallC, if_pos hB, h1]⟩
theorem call_none {x : CallD} (h : callB x = false) : pcallB (callT x) = false := by
  have e : callT x = nulB := by rw [callT, h]; rfl
  rw [e, Bool.eq_false_iff]
  intro hc
  have hb : callB (candI nulB) = true := by simp only [pcallB, goodC, Bool.and_eq_true] at hc; exact hc.1
  have he := good_iff hc
  obtain ⟨_, _, h3⟩ := cand_back hb
  rw [he] at h3
  exact h3 (by rw [nulB, mk_list])
theorem call_read {s : ByteArray} (h : pcallB s = true) : callT (pcallC s) = s := by
  rw [pcallC, if_pos h]
  exact good_iff h
end Go.Proofs.YtllmcnmongaahaaGreatDoor.Pu
/- Contracts: texts divided at a separator. -/
namespace Go.Proofs.YtllmcnmongaahaaGreatDoor
open Go.ChangeShapes Go.WideShapes Go.ChangeAt Go.RowKit
set_option maxRecDepth 100000
theorem one_txtS (n : ByteArray) : ∀ u ∈ [Value.string n], u.oneCell' = true := by simp [Value.oneCell']
/-- a new row of texts that the call laid whole -/
theorem own_strs {w : World} {e : TypeId} (l : List ByteArray) {n : Nat} (hn : n = l.length) (hm : n ≤ maxLen) :
    OwnL (w.alloc (.cells (l.map Value.string).toArray e)) w.heap.size e 1 strEn (.slice (some ⟨w.heap.size, 0, none⟩) n n) l := by
  subst hn
  have hfl : (l.flatMap strEn).length = l.length * 1 := flat_len (en := strEn) (size := 1) (fun _ => rfl) l
  refine ⟨hfl, .inr ⟨w.heap.size, l.length, (l.map Value.string).toArray, rfl, Nat.le_refl _, heap_alloc_new w _, Nat.le_refl _, hm, by simp, ?_⟩⟩
  rw [flat_str, Nat.mul_one, show l.length = (l.map Value.string).length by simp]
  exact List.take_length
theorem sep_nil {sep : ByteArray} (h : sep.size = 0) : (sep.toList == []) = true := by
  rw [← lenB] at h
  rw [List.eq_nil_of_length_eq_zero h]; rfl
theorem sep_some {sep : ByteArray} (h : 1 ≤ sep.size) : (sep.toList == []) = false := by
  rw [← lenB] at h
  rcases hl : sep.toList with _ | ⟨x, r⟩
  · rw [hl] at h; simp at h
  · rfl
/-- the library's own division -/
theorem iSplitAt_cc (s sep : ByteArray) (w : World) (hM : MaxC w) (hs : s.size ≤ 16777216) (h1 : 1 ≤ sep.size) :
    Calls Tryz.prog 67 #[.string s, .string sep] w fun e w' => ∃ v, e = .returned v ∧ OwnL w' w.heap.size 9 1 strEn v (Pu.splitA sep s) ∧ Below w.heap.size w w' := by
  obtain ⟨m, hm⟩ := hM
  have hlen := Lib.splitB_all sep h1 0 _ s rfl
  have hle := Lib.countB_le sep h1 s.size s (Nat.le_refl _)
  refine (Tryz.strings_Split s sep m w (by omega) hm h1).mono ?_
  rintro e w' ⟨rfl, rfl⟩
  exact ⟨_, rfl, by rw [Pu.splitA, if_neg (by omega)]; exact own_strs _ hlen.symm (by unfold maxLen; omega), below_alloc (Below.refl _ _) _⟩
set_option maxHeartbeats 1000000 in
theorem sSplitAt_c (s sep : ByteArray) (w : World) (hs : s.size ≤ 16777216) (hsp : sep.size ≤ 16777216) :
    Calls Tryz.prog 116 #[.string s, .string sep] w fun e w' => ∃ v, e = .returned v ∧ OwnL w' w.heap.size 9 1 strEn v (Pu.splitA sep s) ∧ Below w.heap.size w w' := by
  obtain ⟨i0, hi, hz0, hz1, hz2⟩ := info_parts info_str
  have hown0 : OwnL (w.alloc (.cells #[] 9 : Obj)) w.heap.size 9 1 strEn (.slice (some ⟨w.heap.size, 0, none⟩) 0 0) ([] : List ByteArray) := World.ownsRow_made w #[] 0 (Nat.le_refl _) (Nat.zero_le _) rfl
  have hb0 : Below w.heap.size w (w.alloc (.cells #[] 9 : Obj)) := below_alloc (Below.refl _ _) _
  have hsz0 : (w.alloc (.cells #[] 9 : Obj)).heap.size = w.heap.size + 1 := by simp
  by_cases h0 : sep.size = 0
  · have hq := sep_nil h0
    have HF : Hid (Pu.splitA sep s = [s]) := Pu.splitA_nul h0
    have hxa := Pu.ext_all s
    clear h0
    go_enter Tryz.func116, Tryz.ntmps116
    go_wp2
    refine wp_loop_rounds 1 ?_
    rw [rounds_succ]
    go_wp2_with (at_builtin; go_must (refine push_law rfl _ _ 92 (by exact rfl) w.heap.size 9 i0 (.string ByteArray.empty) 1 16 Tryz.underlying92 hi hz0 hz1 hz2 rfl (by decide) strEn _ _ s (by exact rfl) hown0 (by rw [hsz0]; exact rfl) rfl (one_txtS _) hb0 (Nat.le_refl _) hb0.size (by simp) (by decide) ?_); intro v1 w1 hown1 hg1 hb1)
    go_ret
    exact ⟨_, rfl, by rw [HF.out]; exact hown1, hb1⟩
  · have hq := sep_some (sep := sep) (by omega)
    have h1 : 1 ≤ sep.size := by omega
    go_enter Tryz.func116, Tryz.ntmps116
    go_wp2
    go_loopw [5, 6, 7] (fun v f i wr => ∃ (a b : Nat) (o : List ByteArray), a ≤ b ∧ b ≤ s.size ∧ f = .int .i64 a ∧ i = .int .i64 b ∧ o.length ≤ a ∧ Hid (Pu.splitA sep s = o ++ Pu.splitA sep (s.extract a s.size)) ∧ Hid (Pu.NoSep sep s a b) ∧ OwnL wr w.heap.size 9 1 strEn v o ∧ Below w.heap.size w wr) (fun _ _ i _ => s.size - (intOf i).toNat)
    case atStart => exact ⟨0, 0, [], by omega, by omega, rfl, rfl, by simp, by rw [Hid, Pu.ext_all]; rfl, Pu.noSep_start _ _ _, hown0, hb0⟩
    case round =>
      obtain ⟨a, b, o, hab, hbs, rfl, rfl, hol, HD, HN, hown, hb⟩ := hrel
      by_cases hlt : b + sep.size ≤ s.size
      · rcases he : ((s.extract b (b + sep.size)).toList == sep.toList) with _ | _
        · have HN1 := hide (Pu.noSep_step hab HN.out he)
          go_wp2
          go_roundw
          case rel => exact ⟨a, b + 1, o, by omega, by omega, rfl, by go_num, hol, HD, HN1, hown, hb⟩
          case measure => simp [intOf]; omega
        · have HS := hide (Pu.split_found h1 hab hlt HN.out he)
          go_wp2_with (at_builtin; go_must (refine push_law rfl _ _ 92 (by exact rfl) w.heap.size 9 i0 (.string ByteArray.empty) 1 16 Tryz.underlying92 hi hz0 hz1 hz2 rfl (by decide) strEn _ _ (s.extract a b) (by exact rfl) hown (by exact rfl) rfl (one_txtS _) hb (Nat.le_refl _) hb.size (by omega) (by decide) ?_); intro v1 w1 hown1 hg1 hb1)
          go_roundw
          case rel => exact ⟨b + sep.size, b + sep.size, _, by omega, by omega, by go_num, by go_num, by simp; omega, by rw [Hid, HD.out, HS.out]; simp, Pu.noSep_start _ _ _, hown1, hb1⟩
          case measure => simp [intOf]; omega
      · have HP := hide (Pu.split_past h1 hab (by omega) (by omega) HN.out)
        go_wp2_with (at_builtin; go_must (refine push_law rfl _ _ 92 (by exact rfl) w.heap.size 9 i0 (.string ByteArray.empty) 1 16 Tryz.underlying92 hi hz0 hz1 hz2 rfl (by decide) strEn _ _ (s.extract a s.size) (by exact rfl) hown (by exact rfl) rfl (one_txtS _) hb (Nat.le_refl _) hb.size (by omega) (by decide) ?_); intro v1 w1 hown1 hg1 hb1)
        go_ret
        exact ⟨_, rfl, by rw [HD.out, HP.out]; exact hown1, hb1⟩
end Go.Proofs.YtllmcnmongaahaaGreatDoor
/- Contracts: cores, 3: SameCore. -/
namespace Go.Proofs.YtllmcnmongaahaaGreatDoor
open Go.ChangeShapes Go.WideShapes Go.ChangeAt Go.RowKit
set_option maxRecDepth 100000
def Pu.sameCore (p q : Pu.CoreD) : Bool := p.kind.toList == q.kind.toList && p.on == q.on && p.broken == q.broken && p.count == q.count && (p.cells.map Pu.cellKey == q.cells.map Pu.cellKey)
theorem Pu.sameCore_false {p q : Pu.CoreD} (h : ¬ (p.kind.toList = q.kind.toList ∧ p.on = q.on ∧ p.broken = q.broken ∧ p.count = q.count ∧ p.cells.length = q.cells.length)) : Pu.sameCore p q = false := by
  rcases hs : Pu.sameCore p q
  · rfl
  · simp only [Pu.sameCore, Bool.and_eq_true, beq_iff_eq] at hs
    exact absurd ⟨hs.1.1.1.1, hs.1.1.1.2, hs.1.1.2, hs.1.2, by simpa using congrArg List.length hs.2⟩ h
set_option maxHeartbeats 1000000 in
theorem iSameCore_c (p q : Pu.CoreD) (s t : Value) (w : World) (hs : RdL w 2 cellEn s p.cells) (ht : RdL w 2 cellEn t q.cells) :
    Calls Tryz.prog 43 #[coreV p s, coreV q t] w fun e w' => e = .returned (.bool (Pu.sameCore p q)) ∧ Below w.heap.size w w' := by
  unfold coreV
  obtain ⟨A, c, rfl, hlc, hcm, hA⟩ := hs.open_
  obtain ⟨B, d, rfl, hld, hdm, hB⟩ := ht.open_
  have HA := hide hA
  have HB := hide hB
  clear hA hB hs ht
  have HW : Below w.heap.size w ((w.alloc (.cells #[.string p.kind, .bool p.on, .bool p.broken, .slice A p.cells.length c, .int .i64 p.count] 31)).alloc (.cells #[.string q.kind, .bool q.on, .bool q.broken, .slice B q.cells.length d, .int .i64 q.count] 31)) := below_alloc (below_alloc (Below.refl _ _) _) _
  by_cases hd : p.kind.toList = q.kind.toList ∧ p.on = q.on ∧ p.broken = q.broken ∧ p.count = q.count ∧ p.cells.length = q.cells.length
  · have HE : Hid (Pu.sameCore p q = (p.cells.map Pu.cellKey == q.cells.map Pu.cellKey)) := by
      rw [Hid, Pu.sameCore, hd.1, hd.2.1, hd.2.2.1, hd.2.2.2.1]; simp
    obtain ⟨e1, e2, e3, e4, e5⟩ := hd
    have e1' : (p.kind.toList == q.kind.toList) = true := by simp [e1]
    rw [e2, e3, e4, e5] at HW
    rw [e2, e3, e4, e5]
    have hln : q.cells.length ≤ 9223372036854775807 := by omega
    have HL := hide e5
    clear e2 e3 e4 e5 e1
    go_enter Tryz.func43, Tryz.ntmps43
    go_wp2
    go_loopw [44] (fun i wr => ∃ k : Nat, k ≤ q.cells.length ∧ i = .int .i64 k ∧ Hid ((p.cells.map Pu.cellKey).take k = (q.cells.map Pu.cellKey).take k) ∧ Below (w.heap.size + 1 + 1) ((w.alloc (.cells #[.string p.kind, .bool q.on, .bool q.broken, .slice A q.cells.length c, .int .i64 q.count] 31)).alloc (.cells #[.string q.kind, .bool q.on, .bool q.broken, .slice B q.cells.length d, .int .i64 q.count] 31)) wr) (fun i _ => q.cells.length - (intOf i).toNat)
    case atStart => exact ⟨0, by omega, rfl, rfl, Below.refl _ _⟩
    case round =>
      obtain ⟨k, hk, rfl, HT, hb⟩ := hrel
      by_cases hlt : k < q.cells.length
      · obtain ⟨g, o, rfl, hg, HC⟩ := HA.out.at_ (by rw [HL.out]; omega)
        obtain ⟨g', o', rfl, hg', HC'⟩ := HB.out.at_ (by omega)
        have hbw : Below w.heap.size w wr := HW.trans (hb.mono (by omega))
        obtain ⟨x, HX, h0, h1⟩ := cell_get HC hbw (k := k) (by rw [HL.out]; exact hlt)
        obtain ⟨y, HY, h2, h3⟩ := cell_get HC' hbw hlt
        obtain ⟨_, _, _, _, _, _⟩ := five_cells ((hb.block w.heap.size (by omega)).trans (heap_old (by simp) (heap_new rfl)))
        obtain ⟨_, _, _, _, _, _⟩ := five_cells ((hb.block (w.heap.size + 1) (by omega)).trans (heap_new (by simp)))
        have HB2 := hide hbw
        have HB3 := hide hb
        clear hb hbw HW
        go_wp2
        have hq := fun w' => neq_cell x.key y.key x.val y.val w'
        have hgu := guard_cell
        go_quiet (fail)
        go_wp2
        · go_ret
          have hk' : Pu.cellKey x ≠ Pu.cellKey y := fun e => by
            simp only [Pu.cellKey, Prod.mk.injEq] at e
            have hor := ‹_ ∨ _›
            simp [e.1, e.2] at hor
          exact ⟨ret_bool (by rw [HE.out]; simpa using Pu.map_ne HX.out HY.out hk'), below_drewN HB2.out _⟩
        · go_roundw
          case rel =>
            have hor := ‹_ ∧ _›
            simp only [Bool.not_eq_false', beq_iff_eq] at hor
            exact ⟨k + 1, by omega, by go_num, Pu.take_map HT.out HX.out HY.out (by rw [Pu.cellKey, Pu.cellKey, hor.1, hor.2]), below_drewN HB3.out _⟩
          case measure => simp [intOf]; omega
      · obtain rfl : k = q.cells.length := by omega
        go_wp2
        go_ret
        exact ⟨ret_bool (by have h := HT.out; rw [HE.out]; rw [List.take_of_length_le (by simp [HL.out]), List.take_of_length_le (by simp)] at h; simp [h]), HW.trans (hb.mono (by omega))⟩
  · go_enter Tryz.func43, Tryz.ntmps43
    go_wp2 <;> first
      | (go_ret; exact ⟨ret_bool (Pu.sameCore_false hd).symm, below_alloc (below_alloc (Below.refl _ _) _) _⟩)
      | exact absurd ⟨by assumption, by assumption, by assumption, by assumption, by have := ‹(_ != _) = false›; simp at this; omega⟩ hd
end Go.Proofs.YtllmcnmongaahaaGreatDoor
/- '==' on replies and on calls that are the same. -/
namespace Go.Proofs.YtllmcnmongaahaaGreatDoor
open Go.ChangeShapes Go.WideShapes Go.ChangeAt Go.RowKit
set_option maxRecDepth 100000
theorem sameCore_refl (p : Pu.CoreD) : Pu.sameCore p p = true := by simp [Pu.sameCore]
theorem eqi_reply (c v wa h : Int) (t t' : ByteArray) (ht : t.toList = t'.toList) (w : World) :
    (Op.equalIn 10000 33 (.agg #[.int .i64 c, .int .i64 v, .string t, .int .i64 wa, .int .i64 h]) (.agg #[.int .i64 c, .int .i64 v, .string t', .int .i64 wa, .int .i64 h])).run Tryz.prog w = .ok true w := by
  have h1 : Tryz.prog.stoodInHeld 33 = false := by kernel_rfl
  have h2 : (Tryz.prog.fieldsOf 33).toList.map (fun f => (f.name, f.type, f.offset)) = [("Code", 3, 0), ("Value", 3, 1), ("Text", 9, 2), ("Want", 3, 3), ("Had", 3, 4)] := by kernel_rfl
  have h3 : Tryz.prog.underlying 33 = some (.struct (Tryz.prog.fieldsOf 33)) := by kernel_rfl
  have h4 : Tryz.prog.underlying 9 = some .string := Tryz.underlying9
  have h5 : Tryz.prog.underlying 3 = some (.int .i64) := Tryz.underlying3
  have h6 : Tryz.prog.plainKey 9 = true := by kernel_rfl
  have h7 : Tryz.prog.plainKey 3 = true := by kernel_rfl
  rw [show (10000 : Nat) = 9998 + 1 + 1 from rfl, run_equalIn_agg _ _ _ _ _ h3 h1]
  generalize (Tryz.prog.fieldsOf 33).toList = fs at h2
  match fs, h2 with
  | [f0, f1, f2, f3, f4], h2 =>
    simp only [List.map_cons, List.map_nil, List.cons.injEq, Prod.mk.injEq, and_true] at h2
    obtain ⟨⟨a1, a2, a3⟩, ⟨b1, b2, b3⟩, ⟨c1, c2, c3⟩, ⟨d1, d2, d3⟩, e1, e2, e3⟩ := h2
    have p0 : ∀ t, (part 3 #[.int .i64 c, .int .i64 v, .string t, .int .i64 wa, .int .i64 h] 0).run Tryz.prog w = .ok (.int .i64 c) w := fun t => run_part_plain w h7 rfl
    have p1 : ∀ t, (part 3 #[.int .i64 c, .int .i64 v, .string t, .int .i64 wa, .int .i64 h] 1).run Tryz.prog w = .ok (.int .i64 v) w := fun t => run_part_plain w h7 rfl
    have p2 : ∀ t, (part 9 #[.int .i64 c, .int .i64 v, .string t, .int .i64 wa, .int .i64 h] 2).run Tryz.prog w = .ok (.string t) w := fun t => run_part_plain w h6 rfl
    have p3 : ∀ t, (part 3 #[.int .i64 c, .int .i64 v, .string t, .int .i64 wa, .int .i64 h] 3).run Tryz.prog w = .ok (.int .i64 wa) w := fun t => run_part_plain w h7 rfl
    have p4 : ∀ t, (part 3 #[.int .i64 c, .int .i64 v, .string t, .int .i64 wa, .int .i64 h] 4).run Tryz.prog w = .ok (.int .i64 h) w := fun t => run_part_plain w h7 rfl
    have r : (t.toList == t'.toList) = true := by simp [ht]
    simp [Op.eqFields, a1, a2, a3, b1, b2, b3, c1, c2, c3, d1, d2, d3, e1, e2, e3, p0, p1, p2, p3, p4, r, run_equalIn_int _ _ _ _ _ _ _ h5, run_equalIn_string _ _ _ _ _ h4, Result.andThen_ok]
  | [], h2 => simp at h2
  | [_], h2 => simp at h2
  | [_, _], h2 => simp at h2
  | [_, _, _], h2 => simp at h2
  | [_, _, _, _], h2 => simp at h2
  | _ :: _ :: _ :: _ :: _ :: _ :: _, h2 => simp at h2
theorem eql_reply (c v wa h : Int) (t t' : ByteArray) (ht : t.toList = t'.toList) (w : World) : (binOp .eql 33 (.agg #[.int .i64 c, .int .i64 v, .string t, .int .i64 wa, .int .i64 h]) (.agg #[.int .i64 c, .int .i64 v, .string t', .int .i64 wa, .int .i64 h])).run Tryz.prog w = .ok (.bool true) w := by
  rw [run_eql_struct, eqi_reply _ _ _ _ _ _ ht]; rfl
theorem neq_reply (c v wa h : Int) (t t' : ByteArray) (ht : t.toList = t'.toList) (w : World) : (binOp .neq 33 (.agg #[.int .i64 c, .int .i64 v, .string t, .int .i64 wa, .int .i64 h]) (.agg #[.int .i64 c, .int .i64 v, .string t', .int .i64 wa, .int .i64 h])).run Tryz.prog w = .ok (.bool false) w := by
  rw [run_neq_struct, eqi_reply _ _ _ _ _ _ ht]; rfl
theorem guard_reply : Tryz.prog.eqGuardType Tryz.prog.depth 33 = false := by kernel_rfl
theorem eql_call (v : Int) (m m' k k' t t' : ByteArray) (hm : m.toList = m'.toList) (hk : k.toList = k'.toList) (ht : t.toList = t'.toList) (w : World) :
    (binOp .eql 37 (.agg #[.string m, .string k, .int .i64 v, .string t]) (.agg #[.string m', .string k', .int .i64 v, .string t'])).run Tryz.prog w = .ok (.bool true) w := by
  have h1 : Tryz.prog.stoodInHeld 37 = false := by kernel_rfl
  have h2 : (Tryz.prog.fieldsOf 37).toList.map (fun f => (f.name, f.type, f.offset)) = [("Method", 9, 0), ("Key", 9, 1), ("Value", 3, 2), ("Text", 9, 3)] := by kernel_rfl
  have h3 : Tryz.prog.underlying 37 = some (.struct (Tryz.prog.fieldsOf 37)) := by kernel_rfl
  have h4 : Tryz.prog.underlying 9 = some .string := Tryz.underlying9
  have h5 : Tryz.prog.underlying 3 = some (.int .i64) := Tryz.underlying3
  have h6 : Tryz.prog.plainKey 9 = true := by kernel_rfl
  have h7 : Tryz.prog.plainKey 3 = true := by kernel_rfl
  rw [run_eql_struct, show (10000 : Nat) = 9998 + 1 + 1 from rfl, run_equalIn_agg _ _ _ _ _ h3 h1]
  generalize (Tryz.prog.fieldsOf 37).toList = fs at h2
  match fs, h2 with
  | [f0, f1, f2, f3], h2 =>
    simp only [List.map_cons, List.map_nil, List.cons.injEq, Prod.mk.injEq, and_true] at h2
    obtain ⟨⟨a1, a2, a3⟩, ⟨b1, b2, b3⟩, ⟨c1, c2, c3⟩, d1, d2, d3⟩ := h2
    have p0 : ∀ m k t : ByteArray, (part 9 #[.string m, .string k, .int .i64 v, .string t] 0).run Tryz.prog w = .ok (.string m) w := fun m k t => run_part_plain w h6 rfl
    have p1 : ∀ m k t : ByteArray, (part 9 #[.string m, .string k, .int .i64 v, .string t] 1).run Tryz.prog w = .ok (.string k) w := fun m k t => run_part_plain w h6 rfl
    have p2 : ∀ m k t : ByteArray, (part 3 #[.string m, .string k, .int .i64 v, .string t] 2).run Tryz.prog w = .ok (.int .i64 v) w := fun m k t => run_part_plain w h7 rfl
    have p3 : ∀ m k t : ByteArray, (part 9 #[.string m, .string k, .int .i64 v, .string t] 3).run Tryz.prog w = .ok (.string t) w := fun m k t => run_part_plain w h6 rfl
    have r1 : (m.toList == m'.toList) = true := by simp [hm]
    have r2 : (k.toList == k'.toList) = true := by simp [hk]
    have r3 : (t.toList == t'.toList) = true := by simp [ht]
    simp [Op.eqFields, a1, a2, a3, b1, b2, b3, c1, c2, c3, d1, d2, d3, p0, p1, p2, p3, r1, r2, r3, run_equalIn_int _ _ _ _ _ _ _ h5, run_equalIn_string _ _ _ _ _ h4, Result.andThen_ok]
  | [], h2 => simp at h2
  | [_], h2 => simp at h2
  | [_, _], h2 => simp at h2
  | [_, _, _], h2 => simp at h2
  | _ :: _ :: _ :: _ :: _ :: _, h2 => simp at h2
theorem guard_call : Tryz.prog.eqGuardType Tryz.prog.depth 37 = false := by kernel_rfl
end Go.Proofs.YtllmcnmongaahaaGreatDoor
/- Structs that a law takes, opened. -/
namespace Go.Proofs.YtllmcnmongaahaaGreatDoor
open Go.ChangeShapes Go.WideShapes Go.ChangeAt Go.RowKit
set_option maxRecDepth 100000
section
variable {H : Type} {enc : TypeId × Value → H} {W : World}
/-- a slice in a field -/
theorem open_field {α : Type} {t e : TypeId} {size n : Nat} {c : Value} {y : DataW H × List MemPlace} (en : α → List Value) (ok : α → Prop) (hu : Tryz.prog.underlying t = some (.slice e)) (hc : Tryz.prog.cellsOf e = size) (hsz : 0 < size) (hlen : ∀ x, (en x).length = size)
    (hdec : ∀ n cs y, DataW.trod enc Tryz.prog W 0 (fun _ => true) true n e cs = some y → ∃ x, cs = en x ∧ ok x)
    (hf : DataW.trod enc Tryz.prog W 0 (fun _ => true) true n t [c] = some y) : ∃ l, RdL W size en c l ∧ ∀ x ∈ l, ok x := by
  obtain ⟨d, p⟩ := y
  rcases Go.Deep.open_slice hu hf with ⟨hcs, _⟩ | ⟨a, len', cap', m, n, D, Pl, hcs, _, hl, hm, hmm, _, hi⟩
  · have e : c = .slice none 0 0 := by simpa using hcs
    rw [e]
    exact ⟨[], RdL.nil _ _ _, by simp⟩
  · have e : c = .slice (some a) len' cap' := by simpa using hcs
    rw [e]
    simp only [if_true] at hmm
    rw [hc] at hi
    obtain ⟨l, hll, hq⟩ := list_of (Q := fun i x => W.cells? 0 (a.add (i * size)) size = some (en x) ∧ ok x) len' (fun i hil => by
      obtain ⟨cs', h1, h2⟩ := hi i (by omega)
      obtain ⟨x, rfl, hx⟩ := hdec _ _ _ h2
      exact ⟨x, h1, hx⟩)
    refine ⟨l, ⟨some a, cap', by rw [hll], by omega, hm, fun h0 => ?_⟩, fun x hx => ?_⟩
    · obtain ⟨hw0, _⟩ := hq 0 l[0] (List.getElem?_eq_getElem (by omega))
      obtain ⟨_, _, hat⟩ := World.cells?_some hw0
      have h00 := hat 0 (by omega)
      have hlt0 : 0 < (en l[0]).length := by rw [hlen]; exact hsz
      rw [List.getElem?_eq_getElem hlt0] at h00
      have ha : (a.add (0 * size)).add 0 = a := by simp [Addr.add]
      rw [ha] at h00
      obtain ⟨e1, e2⟩ := spot_none h00
      refine ⟨a.block, a.off, by rw [← e1], e2, fun i x hx j u hu => ?_⟩
      obtain ⟨hwi, _⟩ := hq i x hx
      obtain ⟨_, _, hat⟩ := World.cells?_some hwi
      have hj := hat j (by rw [← hlen x]; exact (List.getElem?_eq_some_iff.1 hu).1)
      rw [e1, add_lit, add_lit] at hj
      exact hj.trans hu
    · obtain ⟨i, hi, rfl⟩ := List.getElem_of_mem hx
      exact (hq i _ (List.getElem?_eq_getElem hi)).2
theorem cells_slice : Tryz.prog.cellsOf 22 = 1 := by kernel_rfl
theorem core_of {n : Nat} {cs : List Value} {y : DataW H × List MemPlace} (h : DataW.trod enc Tryz.prog W 0 (fun _ => true) true n 24 cs = some y) : ∃ p s, cs = [.string p.kind, .bool p.on, .bool p.broken, s, .int .i64 p.count] ∧ RdCore W (coreV p s) p := by
  obtain ⟨xs, m, _, _, hl, hx, hf⟩ := DataW.trod_struct Tryz.underlying24 h
  have hlen : cs.length = 5 := hl.trans (by kernel_rfl)
  match cs, hlen with
  | [c0, c1, c2, c3, c4], _ =>
    match xs, hx with
    | [y0, y1, y2, y3, y4], _ =>
      have h0 : DataW.trod enc Tryz.prog W 0 (fun _ => true) true m 9 [c0] = some y0 := by have := hf 0 _ rfl; simpa [cells_str] using this
      have h1 : DataW.trod enc Tryz.prog W 0 (fun _ => true) true m 4 [c1] = some y1 := by have := hf 1 _ rfl; simpa [cells_str, cells_bool] using this
      have h2 : DataW.trod enc Tryz.prog W 0 (fun _ => true) true m 4 [c2] = some y2 := by have := hf 2 _ rfl; simpa [cells_str, cells_bool] using this
      have h3 : DataW.trod enc Tryz.prog W 0 (fun _ => true) true m 22 [c3] = some y3 := by have := hf 3 _ rfl; simpa [cells_str, cells_bool, cells_slice] using this
      have h4 : DataW.trod enc Tryz.prog W 0 (fun _ => true) true m 3 [c4] = some y4 := by have := hf 4 _ rfl; simpa [cells_str, cells_bool, cells_slice, cells_int] using this
      obtain ⟨s, e0, _, hs⟩ := DataW.trod_string Tryz.underlying9 h0
      obtain ⟨b1, e1, _⟩ := DataW.trod_bool Tryz.underlying4 h1
      obtain ⟨b2, e2, _⟩ := DataW.trod_bool Tryz.underlying4 h2
      obtain ⟨l, hr, hw⟩ := open_field (size := 2) cellEn CellD.wf Tryz.underlying22 (by kernel_rfl) (by decide) (fun _ => rfl) (fun _ _ _ h => cell_of h) h3
      obtain ⟨n, e4, _, hn⟩ := DataW.trod_int Tryz.underlying3 h4
      simp only [List.cons.injEq, and_true] at e0 e1 e2 e4
      subst e0 e1 e2 e4
      exact ⟨⟨s, b1, b2, l, n⟩, c3, rfl, ⟨hs, hn⟩, c3, rfl, hr, hw⟩
theorem open_core {base : Nat} {v : Value} {d : DataW H} {p : List MemPlace} (hv : Value.okWide Tryz.prog W .any base 24 v) (h : DataW.Trod enc Tryz.prog W 0 (fun _ => true) true 24 v d p) : ∃ a, RdCore W v a := by
  obtain ⟨cs, rfl, _⟩ := okWide_struct Tryz.underlying24 hv
  obtain ⟨fuel, hf⟩ := h
  obtain ⟨p, s, e, hr⟩ := core_of hf
  have e' : cs = #[.string p.kind, .bool p.on, .bool p.broken, s, .int .i64 p.count] := by simpa [Value.cells, ← Array.toList_inj] using e
  rw [e']
  exact ⟨p, hr⟩
end
end Go.Proofs.YtllmcnmongaahaaGreatDoor
/- Calls that a law takes, opened. -/
namespace Go.Proofs.YtllmcnmongaahaaGreatDoor
open Go.ChangeShapes Go.WideShapes Go.ChangeAt Go.RowKit
set_option maxRecDepth 100000
section
variable {H : Type} {enc : TypeId × Value → H} {W : World}
theorem call_of {n : Nat} {cs : List Value} {y : DataW H × List MemPlace} (h : DataW.trod enc Tryz.prog W 0 (fun _ => true) true n 26 cs = some y) : ∃ c : Pu.CallD, cs = callEn c ∧ CallD.wf c := by
  obtain ⟨xs, m, _, _, hl, hx, hf⟩ := DataW.trod_struct Tryz.underlying26 h
  have hlen : cs.length = 4 := hl.trans (by kernel_rfl)
  match cs, hlen with
  | [c0, c1, c2, c3], _ =>
    match xs, hx with
    | [y0, y1, y2, y3], _ =>
      have h0 : DataW.trod enc Tryz.prog W 0 (fun _ => true) true m 9 [c0] = some y0 := by have := hf 0 _ rfl; simpa [cells_str] using this
      have h1 : DataW.trod enc Tryz.prog W 0 (fun _ => true) true m 9 [c1] = some y1 := by have := hf 1 _ rfl; simpa [cells_str] using this
      have h2 : DataW.trod enc Tryz.prog W 0 (fun _ => true) true m 3 [c2] = some y2 := by have := hf 2 _ rfl; simpa [cells_str, cells_int] using this
      have h3 : DataW.trod enc Tryz.prog W 0 (fun _ => true) true m 9 [c3] = some y3 := by have := hf 3 _ rfl; simpa [cells_str, cells_int] using this
      obtain ⟨s, e0, _, hs⟩ := DataW.trod_string Tryz.underlying9 h0
      obtain ⟨k, e1, _, hk⟩ := DataW.trod_string Tryz.underlying9 h1
      obtain ⟨n, e2, _, hn⟩ := DataW.trod_int Tryz.underlying3 h2
      obtain ⟨t, e3, _, ht⟩ := DataW.trod_string Tryz.underlying9 h3
      simp only [List.cons.injEq, and_true] at e0 e1 e2 e3
      subst e0 e1 e2 e3
      exact ⟨⟨s, k, n, t⟩, rfl, hs, hk, hn, ht⟩
theorem open_call {base : Nat} {v : Value} {d : DataW H} {p : List MemPlace} (hv : Value.okWide Tryz.prog W .any base 26 v) (h : DataW.Trod enc Tryz.prog W 0 (fun _ => true) true 26 v d p) : ∃ a, IsCallV v a := by
  obtain ⟨cs, rfl, _⟩ := okWide_struct Tryz.underlying26 hv
  obtain ⟨fuel, hf⟩ := h
  obtain ⟨c, e, hw⟩ := call_of hf
  have e' : cs = #[.string c.method, .string c.key, .int .i64 c.value, .string c.text] := by simpa [Value.cells, callEn, ← Array.toList_inj] using e
  rw [e']
  exact ⟨c, hw, rfl⟩
end
end Go.Proofs.YtllmcnmongaahaaGreatDoor
/- Contracts of the laws' own helpers: the marks of cores and parts. -/
namespace Go.Proofs.YtllmcnmongaahaaGreatDoor
open Go.ChangeShapes Go.WideShapes Go.ChangeAt Go.RowKit
set_option maxRecDepth 100000
set_option maxRecDepth 100000 in
theorem markCore_c (p : Pu.CoreD) (s : Value) (l : List Pu.CellD) (k : Int) (base : Nat) (w : World) (h : OwnL w base 63 2 cellEn s l) (hk0 : 1 ≤ k) (hk1 : k ≤ 4294967296) (hl : l.length ≤ 4294967296) :
    Calls Tryz.prog 19 #[coreV p s, .int .i64 k] w fun e w' => e = .returned (.int .i64 (k + 2 * l.length)) ∧ OwnL w' base 63 2 cellEn s (Pu.gen (Pu.gC k) l.length) ∧ w.grownBy w' s.ownBlock := by
  have HS := hide h
  have h2 : OwnL (w.alloc (.cells #[.string p.kind, .bool p.on, .bool p.broken, s, .int .i64 p.count] 31)) base 63 2 cellEn s l := OwnL.below h (below_alloc (Below.refl _ _) _) (Nat.le_refl _)
  have H2 := hide h2
  have HG := hide (grown_of (w := w) (w' := w.alloc (.cells #[.string p.kind, .bool p.on, .bool p.broken, s, .int .i64 p.count] 31)) (below_alloc (Below.refl _ _) _) s.ownBlock)
  clear h h2
  unfold coreV
  go_enter Tryz.func19, Tryz.ntmps19
  go_wp2_with fail
  refine (markCellS_c s l k base _ H2.out hk0 hk1 hl).mono ?_; rintro e w1 ⟨rfl, ho, hg⟩
  go_wp2
  go_ret
  exact ⟨rfl, ho, grown_trans HG.out hg⟩
set_option maxRecDepth 100000 in
theorem heldCore_c (p : Pu.CoreD) (s : Value) (n : Nat) (k : Int) (w : World) (h : RdL w 2 cellEn s (Pu.gen (Pu.gC k) n)) (hk0 : 1 ≤ k) (hk1 : k ≤ 4294967296) (hl : n ≤ 4294967296) :
    Calls Tryz.prog 20 #[coreV p s, .int .i64 k] w fun e w' => e = .returned (.int .i64 (k + 2 * n)) ∧ Below w.heap.size w w' := by
  have HS := hide h
  clear h
  unfold coreV
  have hkn : ¬ (k + 2 * (n : Int)) < 0 := by omega
  go_enter Tryz.func20, Tryz.ntmps20
  go_wp2_with fail
  refine (heldCellS_c s n k _ (RdL.below HS.out (below_alloc (Below.refl _ _) _) (Nat.le_refl _)) hk0 hk1 hl).mono ?_; rintro e w1 ⟨rfl, hb1⟩
  go_wp2
  go_ret
  exact ⟨rfl, (below_alloc (Below.refl _ _) _).trans (hb1.mono (by simp))⟩
end Go.Proofs.YtllmcnmongaahaaGreatDoor
/- Laws of calls, in plain Lean. -/
namespace Go.Proofs.YtllmcnmongaahaaGreatDoor.Pu
theorem nul_list : nulB.toList = [] := mk_list []
theorem doF_code (p : CoreD) (x : CallD) : (doF p x).2.code ≠ 1 ∧ (doF p x).2.code ≠ 7 := by
  unfold doF keepF
  repeat' split
  all_goals simp [rp]
theorem callF_bad {p : CoreD} {x : CallD} (h : (coreB p && callB x) = false) : callF p x = (p, rp 7 0) := by
  rw [callF, h]; rfl
theorem callF_do {p : CoreD} {x : CallD} (hp : coreB p = true) (hx : callB x = true) (ho : offersB (faceK p) (wantF x.method.toList) = true) : callF p x = doF p x := by
  rw [callF, hp, hx, Bool.true_and, if_pos rfl, if_pos ho]
theorem callF_no {p : CoreD} {x : CallD} (hp : coreB p = true) (hx : callB x = true) (ho : offersB (faceK p) (wantF x.method.toList) = false) : callF p x = (p, ⟨1, 0, nulB, wantF x.method.toList, faceK p⟩) := by
  rw [callF, hp, hx, Bool.true_and, if_pos rfl, if_neg (by rw [ho]; exact Bool.noConfusion)]
/-- a call of a method without operands -/
def plainC (l : List UInt8) : CallD := ⟨⟨l.toArray⟩, nulB, 0, nulB⟩
def getCall (k : ByteArray) : CallD := ⟨⟨mGet.toArray⟩, k, 0, nulB⟩
def loadC (t : ByteArray) : CallD := ⟨⟨mLoad.toArray⟩, nulB, 0, t⟩
theorem plain_ok {l : List UInt8} (h : 0 ≤ abOf l) (hg : (l == mGet) = false) (hp : (l == mPut) = false) (hh : (l == mHear) = false) (hl : (l == mLoad) = false) : callB (plainC l) = true := by
  have e : (plainC l).method.toList = l := mk_list l
  rw [callB, e, hg, hp, hh, hl, callOf, e, decide_eq_false (by omega)]
  simp [plainC, nul_list]
theorem start_ok : callB (plainC mStart) = true := plain_ok (by rw [ab_consts.1]; decide) (by decide) (by decide) (by decide) (by decide)
theorem save_ok : callB (plainC mSave) = true := plain_ok (by rw [ab_consts.2.2.2.2.2.2.2.1]; decide) (by decide) (by decide) (by decide) (by decide)
theorem get_ok {k : ByteArray} (h : nameL k.toList = true) : callB (getCall k) = true := by
  have e : (getCall k).method.toList = mGet := mk_list mGet
  rw [callB, e, callOf, e, ab_consts.2.2.1]
  simp [getCall, nul_list, h]
theorem load_ok (t : ByteArray) : callB (loadC t) = true := by
  have e : (loadC t).method.toList = mLoad := mk_list mLoad
  rw [callB, e, show (mLoad == mGet) = false by decide, show (mLoad == mPut) = false by decide, show (mLoad == mHear) = false by decide, show (mLoad == mLoad) = true by decide, callOf, e, ab_consts.2.2.2.2.2.2.1]
  simp [loadC, nul_list]
/-! ## A core that is started while it is on is broken -/
theorem breaks1 {p : CoreD} (hp : coreB p = true) (h : (callF p (plainC mStart)).2.code ≠ 1) :
    ((callF p (plainC mStart)).2.code == 3) = (p.on || p.broken) ∧ (callF p (plainC mStart)).1.broken = ((callF p (plainC mStart)).2.code == 3) := by
  have e : (plainC mStart).method.toList = mStart := mk_list mStart
  rcases ho : offersB (faceK p) (wantF (plainC mStart).method.toList) with _ | _
  · rw [callF_no hp start_ok ho] at h
    exact absurd rfl h
  · rw [callF_do hp start_ok ho, doF, e]
    simp only [show (mStart == mGet) = false by decide, show (mStart == mPut) = false by decide, show (mStart == mTell) = false by decide, show (mStart == mHear) = false by decide, show (mStart == mSave) = false by decide, show (mStart == mLoad) = false by decide, show (mStart == mHeal) = false by decide, show (mStart == mStop) = false by decide, Bool.false_eq_true, if_false, Bool.not_false, Bool.and_true]
    rcases hb : p.broken with _ | _
    · rcases hn : p.on with _ | _
      · simp [rp]
      · simp [rp]
    · simp [rp, hb]
theorem breaks2 {q : CoreD} {x : CallD} (hq : coreB q = true) (hb : q.broken = true) (hx : callB x = true) :
    ((callF q x).1.broken = !((callF q x).2.code == 0 && (x.method.toList == mHeal))) ∧
    (((callF q x).2.code == 0 && (x.method.toList == mHeal)) = true ∨ ((x.method.toList == mTell) || ((callF q x).2.code == 1)) = true ∨ ((callF q x).2.code = 3 ∧ (callF q x).1 = q)) := by
  rcases ho : offersB (faceK q) (wantF x.method.toList) with _ | _
  · rw [callF_no hq hx ho]
    simp [hb]
  · rw [callF_do hq hx ho, doF, hb]
    rcases hh : (x.method.toList == mHeal) with _ | _
    · rcases ht : (x.method.toList == mTell) with _ | _
      · simp [rp, hb]
      · have e : x.method.toList = mTell := by simpa using ht
        rw [e]
        simp [rp, hb, show (mTell == mGet) = false by decide, show (mTell == mPut) = false by decide]
    · have e : x.method.toList = mHeal := by simpa using hh
      rw [e]
      simp [rp, show (mHeal == mGet) = false by decide, show (mHeal == mPut) = false by decide, show (mHeal == mTell) = false by decide, show (mHeal == mHear) = false by decide, show (mHeal == mSave) = false by decide, show (mHeal == mLoad) = false by decide]
/-! ## What is put is got -/
theorem keep_code {p : CoreD} {x : CallD} (h : (keepF false p x).2.code = 0) :
    (hasB (faceK p) 0 && !p.on) = false ∧ keepF false p x = (⟨p.kind, p.on, p.broken, putC x.key x.value p.cells, upF p.count⟩, rp 0 (putC x.key x.value p.cells).length) := by
  rcases hr : (hasB (faceK p) 0 && !p.on) with _ | _
  · rw [keepF, hr] at h ⊢
    simp only [Bool.false_eq_true, if_false] at h ⊢
    split at h
    · simp [rp] at h
    · rename_i hf
      rw [if_neg hf]
      exact ⟨trivial, rfl⟩
  · rw [keepF, hr] at h
    simp [rp] at h
theorem put_then {p : CoreD} {x : CallD} (hm : x.method.toList = mPut) (h : (callF p x).2.code = 0) :
    coreB p = true ∧ nameL x.key.toList = true ∧ offersB (faceK p) 2 = true ∧ p.broken = false ∧ (hasB (faceK p) 0 && !p.on) = false ∧ callF p x = (⟨p.kind, p.on, p.broken, putC x.key x.value p.cells, upF p.count⟩, rp 0 (putC x.key x.value p.cells).length) := by
  rcases hcc : (coreB p && callB x) with _ | _
  · rw [callF_bad hcc] at h
    simp [rp] at h
  · rw [Bool.and_eq_true] at hcc
    obtain ⟨hp, hx⟩ := hcc
    rcases ho : offersB (faceK p) (wantF x.method.toList) with _ | _
    · rw [callF_no hp hx ho] at h
      simp at h
    · rw [callF_do hp hx ho] at h ⊢
      have hw : wantF mPut = 2 := by rw [wantF, ab_consts.2.2.2.1]; decide
      rw [hm, hw] at ho
      rw [doF, hm] at h ⊢
      rcases hb : p.broken with _ | _
      · rw [hb] at h
        simp only [show (mPut == mGet) = false by decide, show (mPut == mPut) = true by decide, Bool.false_and, Bool.false_eq_true, if_false, if_true] at h ⊢
        obtain ⟨h1, h2⟩ := keep_code h
        rw [hb] at h2
        exact ⟨hp, (call_put hx (by rw [hm]; decide)).1, ho, trivial, h1, h2⟩
      · rw [hb] at h
        simp [rp, show (mPut == mHeal) = false by decide, show (mPut == mTell) = false by decide] at h
theorem get_is {p : CoreD} {k : ByteArray} (hp : coreB p = true) (hk : nameL k.toList = true) (ho : offersB (faceK p) 2 = true) (hb : p.broken = false) (hr : (hasB (faceK p) 0 && !p.on) = false) :
    (callF p (getCall k)).2 = if hit k p.cells then rp 0 (getV k p.cells) else rp 4 0 := by
  have e : (getCall k).method.toList = mGet := mk_list mGet
  have hw : wantF mGet = 2 := by rw [wantF, ab_consts.2.2.1]; decide
  rw [callF_do hp (get_ok hk) (by rw [e, hw]; exact ho), doF, e, hb]
  simp only [show (mGet == mGet) = true by decide, Bool.false_and, Bool.false_eq_true, if_false, if_true, keepF, hr]
  show (if hit k p.cells = true then (p, rp 0 (getV k p.cells)) else (p, rp 4 0)).2 = _
  split <;> rfl
theorem put_get {p : CoreD} {x : CallD} (hm : x.method.toList = mPut) (h : (callF p x).2.code = 0) :
    (callF (callF p x).1 (getCall x.key)).2 = rp 0 x.value ∧ (callF p x).2.value = (callF p x).1.cells.length ∧
    ∀ c ∈ p.cells, (c.key.toList == x.key.toList) = false → (callF p (getCall c.key)).2 = (callF (callF p x).1 (getCall c.key)).2 := by
  obtain ⟨hp, hk, ho, hb, hr, e⟩ := put_then hm h
  have hq := (callF_good (x := x) hp).1
  rw [e] at hq ⊢
  have hpc := (good_iff'.1 hp).cells
  simp only [cellsB, Bool.and_eq_true] at hpc
  obtain ⟨g1, g2⟩ := get_put (k := x.key) (v := x.value) (l := p.cells)
  refine ⟨?_, rfl, fun c hc hne => ?_⟩
  · rw [get_is hq hk ho hb hr, g1, g2]; rfl
  · have hkc := (cells_each hpc.2 c hc).1
    rw [get_is hp hkc ho hb hr, get_is hq hkc ho hb hr]
    obtain ⟨o1, o2⟩ := get_other (k := x.key) (j := c.key) (v := x.value) hne hpc.2
    show (if hit c.key p.cells = true then _ else _) = (if hit c.key (putC x.key x.value p.cells) = true then _ else _)
    rw [o1]
    split
    · rename_i hh
      show rp 0 _ = rp 0 (getV c.key (putC x.key x.value p.cells))
      rw [o2 hh]
    · rfl
/-! ## What is saved is loaded again -/
theorem save_is {p : CoreD} (hp : coreB p = true) : (callF p (plainC mSave)).1 = p ∧ ((callF p (plainC mSave)).2.code = 0 → offersB (faceK p) 16 = true ∧ (callF p (plainC mSave)).2.text = cellsT p.cells) := by
  have e : (plainC mSave).method.toList = mSave := mk_list mSave
  have hw : wantF mSave = 16 := by rw [wantF, ab_consts.2.2.2.2.2.2.2.1]; decide
  rcases ho : offersB (faceK p) (wantF (plainC mSave).method.toList) with _ | _
  · rw [callF_no hp save_ok ho]
    exact ⟨rfl, fun h => by simp at h⟩
  · rw [callF_do hp save_ok ho]
    rw [e, hw] at ho
    rw [doF, e]
    rcases hb : p.broken with _ | _
    · simp [ho, show (mSave == mGet) = false by decide, show (mSave == mPut) = false by decide, show (mSave == mTell) = false by decide, show (mSave == mHear) = false by decide]
    · simp [rp, show (mSave == mHeal) = false by decide, show (mSave == mTell) = false by decide]
theorem load_is {p : CoreD} {l : List CellD} (hp : coreB p = true) (ho : offersB (faceK p) 16 = true) (hl : cellsB l = true) :
    (p.broken = true ∧ (callF p (loadC (cellsT l))).2.code = 3) ∨ (p.broken = false ∧ (callF p (loadC (cellsT l))).2 = rp 0 l.length ∧ (callF p (loadC (cellsT l))).1.cells = l) := by
  have e : (loadC (cellsT l)).method.toList = mLoad := mk_list mLoad
  have hw : wantF mLoad = 16 := by rw [wantF, ab_consts.2.2.2.2.2.2.1]; decide
  obtain ⟨h1, h2⟩ := cells_back hl
  rw [callF_do hp (load_ok _) (by rw [e, hw]; exact ho), doF, e]
  rcases hb : p.broken with _ | _
  · right
    have e2 : (loadC (cellsT l)).text = cellsT l := rfl
    simp [rp, e2, h1, h2, show (mLoad == mGet) = false by decide, show (mLoad == mPut) = false by decide, show (mLoad == mTell) = false by decide, show (mLoad == mHear) = false by decide, show (mLoad == mSave) = false by decide]
  · left
    simp [rp, show (mLoad == mHeal) = false by decide, show (mLoad == mTell) = false by decide]
/-! ## Calls again and again -/
def callsF (p : CoreD) : List CallD → CoreD × List ReplyD
  | [] => (p, [])
  | x :: r => if (callF p x).2.code == 1 then ((callF p x).1, [(callF p x).2]) else ((callsF (callF p x).1 r).1, (callF p x).2 :: (callsF (callF p x).1 r).2)
theorem callsF_good : ∀ {l : List CallD} {p : CoreD}, coreB p = true → coreB (callsF p l).1 = true ∧ (callsF p l).1.kind = p.kind
  | [], _, h => ⟨h, rfl⟩
  | x :: r, p, h => by
    obtain ⟨h1, h2, _⟩ := callF_good (x := x) h
    rw [callsF]
    split
    · exact ⟨h1, h2⟩
    · obtain ⟨h3, h4⟩ := callsF_good (l := r) h1
      exact ⟨h3, h4.trans h2⟩
end Go.Proofs.YtllmcnmongaahaaGreatDoor.Pu
