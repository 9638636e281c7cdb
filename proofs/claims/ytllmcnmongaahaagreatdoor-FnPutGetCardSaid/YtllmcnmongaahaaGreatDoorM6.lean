/- Merged texts of this repo: CallX. -/
import Derived.Test.YtllmcnmongaahaaGreatDoorSCall
import Derived.Test.YtllmcnmongaahaaGreatDoorICall
import Derived.Test.YtllmcnmongaahaaGreatDoorM1
/- Contracts of the laws' own helpers: calls measured and copied; CallCore with its outcome in parts. -/
namespace Go.Proofs.YtllmcnmongaahaaGreatDoor
open Go.ChangeShapes Go.WideShapes Go.ChangeAt Go.RowKit
set_option maxRecDepth 100000
set_option linter.unusedVariables false
theorem szCall3_c (x : Pu.CallD) (left : Int) (w : World) (hw : CallD.wf x) (h0 : 0 ≤ left) (hl : left ≤ 1048576) :
    Calls Tryz.prog 12 #[callV x, .int .i64 left] w fun e w' => (e = .returned (.int .i64 (-1)) ∨ ∃ n : Int, 0 ≤ n ∧ n ≤ 1048576 ∧ x.text.size ≤ 1048576 ∧ e = .returned (.int .i64 n)) ∧ Below w.heap.size w w' := by
  obtain ⟨h1, h2, h3, h4⟩ := hw
  unfold maxLen at h1 h2 h4
  clear h3
  unfold callV
  go_enter Tryz.func12, Tryz.ntmps12
  go_wp2_with fail
  all_goals go_ret
  all_goals first
    | exact ⟨.inl rfl, below_alloc (Below.refl _ _) _⟩
    | exact ⟨.inr ⟨_, by omega, by omega, by omega, rfl⟩, below_alloc (Below.refl _ _) _⟩
section
variable (p : Pu.CoreD) (x : Pu.CallD) (s : Value) (w : World) (k1 t1 : ByteArray) (o1 b1 : Bool) (l1 : List Pu.CellD) (n1 c1 v1 wa1 h1 : Int)
def CallPost (base : Nat) (w : World) (k1 t1 : ByteArray) (o1 b1 : Bool) (l1 : List Pu.CellD) (n1 c1 v1 wa1 h1 : Int) (e : Ending) (w' : World) : Prop :=
  ∃ A' c', e = .returned (.tuple #[.agg #[.string k1, .bool o1, .bool b1, .slice A' l1.length c', .int .i64 n1], .agg #[.int .i64 c1, .int .i64 v1, .string t1, .int .i64 wa1, .int .i64 h1]]) ∧ OwnL w' base 63 2 cellEn (.slice A' l1.length c') l1 ∧ Below base w w'
theorem sCallCore_x (hw : CoreD.wf p) (hxw : CallD.wf x) (hs : RdCells w s p.cells) (hl : p.cells.length ≤ 16777216) (ht : x.text.size ≤ 1048576) (HR : Hid (Pu.callF p x = (⟨k1, o1, b1, l1, n1⟩, ⟨c1, v1, t1, wa1, h1⟩))) :
    Calls Tryz.prog 13 #[.agg #[.string p.kind, .bool p.on, .bool p.broken, s, .int .i64 p.count], .agg #[.string x.method, .string x.key, .int .i64 x.value, .string x.text]] w (CallPost w.heap.size w k1 t1 o1 b1 l1 n1 c1 v1 wa1 h1) := by
  refine (sCallCore_c p x s w hw hxw hs hl ht _ HR).mono ?_
  rintro e w' ⟨s', rfl, ho, hb⟩
  obtain ⟨A', c', rfl⟩ := OwnL.shape ho
  exact ⟨A', c', rfl, ho, hb⟩
theorem iCallCore_x (hM : MaxC w) (hT : Pow10 w) (hE : ErrSyn w) (hw : CoreD.wf p) (hxw : CallD.wf x) (hs : RdCells w s p.cells) (hl : p.cells.length ≤ 16777216) (ht : x.text.size ≤ 1048576) (HR : Hid (Pu.callF p x = (⟨k1, o1, b1, l1, n1⟩, ⟨c1, v1, t1, wa1, h1⟩))) :
    Calls Tryz.prog 16 #[.agg #[.string p.kind, .bool p.on, .bool p.broken, s, .int .i64 p.count], .agg #[.string x.method, .string x.key, .int .i64 x.value, .string x.text]] w (CallPost w.heap.size w k1 t1 o1 b1 l1 n1 c1 v1 wa1 h1) := by
  refine (iCallCore_c p x s w hM hT hE hw hxw hs hl ht _ HR).mono ?_
  rintro e w' ⟨s', rfl, ho, hb⟩
  obtain ⟨A', c', rfl⟩ := OwnL.shape ho
  exact ⟨A', c', rfl, ho, hb⟩
end
theorem Pu.putC_le (k : ByteArray) (v : Int) (l : List Pu.CellD) : (Pu.putC k v l).length ≤ l.length + 1 := by
  rw [Pu.putC_len]; split <;> omega
theorem Pu.callF_len {p : Pu.CoreD} {x : Pu.CallD} {R : Pu.CoreD × Pu.ReplyD} (h : Pu.callF p x = R) (hl : p.cells.length ≤ 1048576) : R.1.cells.length ≤ 2097152 := by
  rw [← h]
  rcases hp : Pu.coreB p with _ | _
  · rw [Pu.callF_bad (by rw [hp]; rfl)]
    show p.cells.length ≤ 2097152
    omega
  · have h1 := (good_of (Pu.callF_good (x := x) hp).1).2.2.2.1
    omega
theorem row_grown {w w' : World} {r : Option Nat} {g : Nat} {o : Obj} (h : w.grownBy w' r) (hr : w.heap[g]? = some o) (hne : some g ≠ r) : w'.heap[g]? = some o := (h.block g (Array.getElem?_eq_some_iff.1 hr).1 hne).trans hr
theorem own_far {α : Type} {w : World} {base : Nat} {e t : TypeId} {size : Nat} {en : α → List Value} {v : Value} {l : List α} {cs : Array Value} {g' : Nat} (h : OwnL w base e size en v l) (hr : w.heap[g']? = some (.cells cs t (0, 0))) (hte : t ≠ e) : some g' ≠ v.ownBlock := fun h9 => own_ne h hr hte g' h9.symm rfl
theorem own_sep {α β : Type} {w w' : World} {b b' : Nat} {e e' : TypeId} {size size' : Nat} {en : α → List Value} {en' : β → List Value} {v v' : Value} {l : List α} {l' : List β} (h : OwnL w b e size en v l) (h' : OwnL w' b' e' size' en' v' l') (hb : w.heap.size ≤ b') : (v.ownBlock = none ∨ v.ownBlock ≠ v'.ownBlock) ∧ (v'.ownBlock = none ∨ v'.ownBlock ≠ v.ownBlock) := by
  refine ⟨OwnL.apart h h' hb, ?_⟩
  rcases hv : v'.ownBlock with _ | g
  · exact .inl rfl
  · exact .inr fun e => by
      have h1 := (OwnL.lt h e.symm).2
      have h2 := (OwnL.lt h' hv).1
      omega
end Go.Proofs.YtllmcnmongaahaaGreatDoor
