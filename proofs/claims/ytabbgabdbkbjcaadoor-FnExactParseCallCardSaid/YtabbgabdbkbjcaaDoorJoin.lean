/- Contracts: texts joined with a separator. -/
import Derived.Test.YtabbgabdbkbjcaaDoorShelf
import Derived.Test.YtabbgabdbkbjcaaDoorMem
import Derived.Lib.Join
import Derived.Deep.QuietTactic
import Derived.BigQuiet
namespace Go.Proofs.YtabbgabdbkbjcaaDoor
open Go.ChangeShapes Go.WideShapes Go.ChangeAt Go.RowKit
set_option maxRecDepth 100000
/-- the texts behind s, each after the separator but the first -/
def Pu.joinAcc (sep : ByteArray) : Bool → ByteArray → List ByteArray → ByteArray
  | _, s, [] => s
  | b, s, x :: r => Pu.joinAcc sep false ((if b then s else s ++ sep) ++ x) r
theorem Pu.joinAcc_data (sep : ByteArray) (l : List ByteArray) : ∀ s : ByteArray, (Pu.joinAcc sep false s l).data.toList = s.data.toList ++ Lib.joinTail sep.data.toList (l.map (·.data.toList)) := by
  induction l with
  | nil => intro s; simp [Pu.joinAcc, Lib.joinTail]
  | cons x r ih => intro s; rw [Pu.joinAcc, ih]; simp [Lib.joinTail, ByteArray.data_append]
def Pu.joinB (sep : ByteArray) (l : List ByteArray) : ByteArray := Pu.joinAcc sep true ⟨#[]⟩ l
theorem Pu.joinB_lib (sep : ByteArray) (l : List ByteArray) : (⟨(Lib.join (l.map (·.data.toList)) sep.data.toList).toArray⟩ : ByteArray) = Pu.joinB sep l := by
  cases l with
  | nil => rfl
  | cons x r =>
    apply ByteArray.ext
    apply Array.toList_inj.1
    rw [Pu.joinB, Pu.joinAcc, Pu.joinAcc_data, List.map_cons, Lib.join_cons]
    simp [ByteArray.data_append]
theorem Pu.joinLen (sep : ByteArray) (l : List ByteArray) : (Lib.join (l.map (·.data.toList)) sep.data.toList).length ≤ l.length * sep.size + Pu.tot l := by
  cases l with
  | nil => simp [Lib.join_nil]
  | cons x r =>
    have h : ∀ r : List ByteArray, (Lib.joinTail sep.data.toList (r.map (·.data.toList))).length ≤ r.length * sep.size + Pu.tot r := by
      intro r
      induction r with
      | nil => simp [Lib.joinTail]
      | cons y r ih =>
        simp only [Lib.joinTail, List.map_cons, List.flatten_cons, List.length_append, List.length_cons, Nat.add_mul, Pu.tot] at ih ⊢
        have h1 : sep.data.toList.length = sep.size := rfl
        have h2 : y.data.toList.length = y.size := rfl
        omega
    rw [List.map_cons, Lib.join_cons, List.length_append]
    have := h r
    have h2 : x.data.toList.length = x.size := rfl
    simp only [Pu.tot, List.length_cons, Nat.add_mul]
    omega
theorem join_c (v : Value) (l : List ByteArray) (sep : ByteArray) (w : World) (hv : RdStr w v l) (hl : l.length ≤ 1048576) (hs : sep.size ≤ 1048576) (ht : Pu.tot l ≤ 1048576) :
    Calls Tryd.prog 32 #[v, .string sep] w fun e w' => e = .returned (.string (Pu.joinB sep l)) ∧ Below w.heap.size w w' := by
  obtain ⟨A, c, rfl, hlc, hcm, hA⟩ := hv.open_
  cases l with
  | nil =>
    refine (Tryd.strings_Join_none A c sep w).mono ?_
    rintro e w' ⟨rfl, rfl⟩
    exact ⟨rfl, Below.refl _ _⟩
  | cons x r =>
    obtain ⟨g, o, rfl, hg, HC⟩ := hA.at_ (by simp)
    have hm : (x :: r).length * sep.size ≤ 1048576 * 1048576 := Nat.mul_le_mul hl hs
    have hj := Pu.joinLen sep (x :: r)
    refine (Tryd.strings_Join g o c (x :: r) sep w (fun j y hy => ?_) hg (by omega) hlc (by omega)).mono ?_
    · have := HC.out.2 j y hy 0 (.string y) rfl
      simpa using this
    · rintro e w' ⟨rfl, hb⟩
      exact ⟨by rw [Pu.joinB_lib], hb⟩
theorem sJoinWith_c (v : Value) (l : List ByteArray) (sep : ByteArray) (w : World) (hv : RdStr w v l) (hl : l.length ≤ 1048576) (hs : sep.size ≤ 1048576) (ht : Pu.tot l ≤ 1048576) :
    Calls Tryd.prog 37 #[v, .string sep] w fun e w' => e = .returned (.string (Pu.joinB sep l)) ∧ Below w.heap.size w w' := by
  obtain ⟨A, c, rfl, hlc, hcm, hA⟩ := hv.open_
  have HA := hide hA
  have HT : Hid (∀ x ∈ l, x.size ≤ 1048576) := fun x hx => Nat.le_trans (Pu.tot_mem hx) ht
  clear hA hv
  go_enter Tryd.func37, Tryd.ntmps37
  go_wp2
  go_loopw [5, 10] (fun s i wr => ∃ (k : Nat) (t : ByteArray), k ≤ l.length ∧ s = .string t ∧ i = .int .i64 k ∧ t.size ≤ k * 2097152 ∧ Hid (Pu.joinB sep l = Pu.joinAcc sep (k == 0) t (l.drop k)) ∧ Below w.heap.size w wr) (fun s i _ => l.length - (intOf i).toNat)
  case atStart => exact ⟨0, ⟨#[]⟩, by omega, rfl, rfl, by simp [ByteArray.size], rfl, Below.refl _ _⟩
  case round =>
    obtain ⟨k, t, hk, rfl, rfl, htz, HB, hb⟩ := hrel
    by_cases hlt : k < l.length
    · obtain ⟨g, o, rfl, hg, HC⟩ := HA.out.at_ (by omega)
      obtain ⟨x, HX, h0⟩ := str_get HC hb hlt
      have HD := hide (dropL HX)
      have hx : x.size ≤ 1048576 := HT.out x (List.mem_of_getElem? HX.out)
      by_cases hk0 : (0 : Int) < (k : Int)
      · have hz1 : ¬ 9223372036854775807 < t.size + sep.size := by omega
        have hz2 : ¬ 9223372036854775807 < t.size + sep.size + x.size := by omega
        go_wp2
        go_roundw
        case rel => exact ⟨k + 1, _, by omega, rfl, by go_num, by simp only [ByteArray.size_append]; omega, by rw [Hid, HB.out, HD.out, Pu.joinAcc, show (k == 0) = false by simp; omega]; rfl, hb⟩
        case measure => simp [intOf]; omega
      · have hz2 : ¬ 9223372036854775807 < t.size + x.size := by omega
        go_wp2
        go_roundw
        case rel => exact ⟨k + 1, _, by omega, rfl, by go_num, by simp only [ByteArray.size_append]; omega, by rw [Hid, HB.out, HD.out, Pu.joinAcc, show (k == 0) = true by simp; omega]; rfl, hb⟩
        case measure => simp [intOf]; omega
    · have HE := hide (dropEnd (l := l) (k := k) (by omega))
      go_wp2
      go_ret
      exact ⟨ret_str (by rw [HB.out, HE.out, Pu.joinAcc]), hb⟩
theorem iJoinWith_c (v : Value) (l : List ByteArray) (sep : ByteArray) (w : World) (hv : RdStr w v l) (hl : l.length ≤ 1048576) (hs : sep.size ≤ 1048576) (ht : Pu.tot l ≤ 1048576) :
    Calls Tryd.prog 14 #[v, .string sep] w fun e w' => e = .returned (.string (Pu.joinB sep l)) ∧ Below w.heap.size w w' := by
  obtain ⟨A, c, rfl, _⟩ := hv.open_
  have HV := hide hv
  clear hv
  go_enter Tryd.func14, Tryd.ntmps14
  go_wp2_with fail
  refine (join_c _ _ _ _ HV.out hl hs ht).mono ?_; rintro e W1 ⟨rfl, b1⟩
  go_wp2
  go_ret
  exact ⟨rfl, b1⟩
end Go.Proofs.YtabbgabdbkbjcaaDoor
