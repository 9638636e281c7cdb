/- How data lies in memory: slices that read as lists, structs. -/
import Derived.Test.YtabbgabdbkbjcaaDoorLib
import Derived.Deep.Slices
import Derived.Deep.Fields
import Derived.Deep.AppendLies
namespace Go.Proofs.YtabbgabdbkbjcaaDoor
open Go.ChangeShapes Go.WideShapes Go.ChangeAt Go.RowKit
set_option maxRecDepth 100000

/-- The slice value v reads as the list l; an element x lies as the cells 'en x' ('size' of them). -/
def RdL {α : Type} (w : World) (size : Nat) (en : α → List Value) (v : Value) (l : List α) : Prop :=
  ∃ A c, v = .slice A l.length c ∧ l.length ≤ c ∧ c ≤ maxLen ∧
    (0 < l.length → ∃ g o, A = some ⟨g, o, none⟩ ∧ g < w.heap.size ∧ ∀ i x, l[i]? = some x → ∀ j u, (en x)[j]? = some u → w.cell? ⟨g, o + i * size + j, none⟩ = some u)

section
variable {α : Type} {w w' : World} {size : Nat} {en : α → List Value} {v : Value} {l : List α}
theorem RdL.nil (w : World) (size : Nat) (en : α → List Value) : RdL w size en (.slice none 0 0) [] := ⟨none, 0, rfl, Nat.le_refl _, Nat.zero_le _, fun h => absurd h (by simp)⟩
theorem RdL.below {B : Nat} (h : RdL w size en v l) (hb : Below B w w') (hB : w.heap.size ≤ B) : RdL w' size en v l := by
  obtain ⟨A, c, hv, h1, h2, h3⟩ := h
  refine ⟨A, c, hv, h1, h2, fun hl => ?_⟩
  obtain ⟨g, o, hA, hg, hc⟩ := h3 hl
  exact ⟨g, o, hA, Nat.lt_of_lt_of_le hg hb.size, fun i x hx j u hu => (hb.cell (p := ⟨g, _, none⟩) (by show g < B; omega)).trans (hc i x hx j u hu)⟩
end

def strEn (s : ByteArray) : List Value := [.string s]
def cellEn (c : Pu.CellD) : List Value := [.string c.key, .int .i64 c.val]
def callEn (x : Pu.CallD) : List Value := [.string x.method, .string x.key, .int .i64 x.value, .string x.text]
def replyEn (r : Pu.ReplyD) : List Value := [.int .i64 r.code, .int .i64 r.value, .string r.text, .int .i64 r.want, .int .i64 r.had]
def layerEn (x : Pu.LayerD) : List Value := [.string x.name, .int .i64 x.count]
def byteEn (b : UInt8) : List Value := [.int .u8 b.toNat]
def intEn (n : Int) : List Value := [.int .i64 n]

def RdStr (w : World) := RdL w 1 strEn
def RdInt (w : World) := RdL w 1 intEn
/-- Cells, each key and value within what Go's types hold. -/
def CellD.wf (c : Pu.CellD) : Prop := c.key.size ≤ maxLen ∧ (Lit.int .i64 c.val).wf = true
def RdCells (w : World) (v : Value) (l : List Pu.CellD) : Prop := RdL w 2 cellEn v l ∧ ∀ c ∈ l, CellD.wf c
/-- what a slice's address is good for -/
def RdAt {α : Type} (w : World) (size : Nat) (en : α → List Value) (A : Option Addr) (l : List α) : Prop :=
  0 < l.length → ∃ g o, A = some ⟨g, o, none⟩ ∧ g < w.heap.size ∧ ∀ i x, l[i]? = some x → ∀ j u, (en x)[j]? = some u → w.cell? ⟨g, o + i * size + j, none⟩ = some u
theorem RdL.open_ {α : Type} {w : World} {size : Nat} {en : α → List Value} {v : Value} {l : List α} (h : RdL w size en v l) :
    ∃ A c, v = .slice A l.length c ∧ l.length ≤ c ∧ c ≤ 9223372036854775807 ∧ RdAt w size en A l := by
  obtain ⟨A, c, h1, h2, h3, h4⟩ := h
  exact ⟨A, c, h1, h2, by unfold maxLen at h3; omega, h4⟩
/-- the list lies from block g, place o on -/
def RdFrom {α : Type} (w : World) (size : Nat) (en : α → List Value) (g o : Nat) (l : List α) : Prop :=
  g < w.heap.size ∧ ∀ i x, l[i]? = some x → ∀ j u, (en x)[j]? = some u → w.cell? ⟨g, o + i * size + j, none⟩ = some u
theorem RdAt.at_ {α : Type} {w : World} {size : Nat} {en : α → List Value} {A : Option Addr} {l : List α} (h : RdAt w size en A l) (hl : 0 < l.length) :
    ∃ g o, A = some ⟨g, o, none⟩ ∧ g < w.heap.size ∧ Hid (RdFrom w size en g o l) := by
  obtain ⟨g, o, hA, hg, hc⟩ := h hl
  exact ⟨g, o, hA, hg, hg, hc⟩
theorem RdFrom.get {α : Type} {w wr : World} {size : Nat} {en : α → List Value} {g o : Nat} {l : List α} (h : RdFrom w size en g o l) (hb : Below w.heap.size w wr) {k : Nat} (hk : k < l.length) :
    ∃ x, Hid (l[k]? = some x) ∧ ∀ j u, (en x)[j]? = some u → wr.cell? ⟨g, o + k * size + j, none⟩ = some u :=
  ⟨l[k], List.getElem?_eq_getElem hk, fun j u hu => (hb.cell (p := ⟨g, _, none⟩) h.1).trans (h.2 k _ (List.getElem?_eq_getElem hk) j u hu)⟩
theorem cell_get {w wr : World} {g o : Nat} {l : List Pu.CellD} (h : Hid (RdFrom w 2 cellEn g o l)) (hb : Below w.heap.size w wr) {k : Nat} (hk : k < l.length) :
    ∃ x, Hid (l[k]? = some x) ∧ wr.cell? ⟨g, o + k * 2, none⟩ = some (.string x.key) ∧ wr.cell? ⟨g, o + k * 2 + 1, none⟩ = some (.int .i64 x.val) := by
  obtain ⟨x, hx, hc⟩ := h.out.get hb hk
  exact ⟨x, hx, hc 0 _ rfl, hc 1 _ rfl⟩
theorem heap_new {w : World} {o : Obj} {k : Nat} (h : k = w.heap.size) : (w.alloc o).heap[k]? = some o := by subst h; exact heap_alloc_new w o
theorem heap_old {w : World} {o x : Obj} {k : Nat} (h : k < w.heap.size) (hx : w.heap[k]? = some x) : (w.alloc o).heap[k]? = some x := (heap_alloc_old w o h).trans hx

/-! ## Slices that the call made itself -/
/-- v owns the list l: a row of its own, in a block from 'base' on. -/
def OwnL {α : Type} (w : World) (base : Nat) (e : TypeId) (size : Nat) (en : α → List Value) (v : Value) (l : List α) : Prop := w.ownsRow base e size v l.length (l.flatMap en)
section
variable {α : Type} {w w' : World} {base : Nat} {e : TypeId} {size : Nat} {en : α → List Value} {v : Value} {l : List α}
theorem OwnL.nil (w : World) (base : Nat) (e : TypeId) (size : Nat) (en : α → List Value) : OwnL w base e size en (.slice none 0 0) [] := World.ownsRow_nil _ _ _ _
theorem OwnL.snoc {x : α} {v' : Value} (h : w'.ownsRow base e size v' (l.length + 1) (l.flatMap en ++ en x)) : OwnL w' base e size en v' (l ++ [x]) := by
  unfold OwnL; simpa using h
theorem OwnL.app {m : List α} {v' : Value} (h : w'.ownsRow base e size v' (l.length + m.length) (l.flatMap en ++ m.flatMap en)) : OwnL w' base e size en v' (l ++ m) := by
  unfold OwnL; simpa using h
theorem flat_at {en : α → List Value} {size : Nat} (hs : ∀ x, (en x).length = size) : ∀ {l : List α} {i : Nat} {x : α}, l[i]? = some x → ∀ {j : Nat} {u : Value}, (en x)[j]? = some u → (l.flatMap en)[i * size + j]? = some u
  | [], i, x, h, _, _, _ => by simp at h
  | y :: r, 0, x, h, j, u, hu => by
    simp at h; subst h
    rw [Nat.zero_mul, Nat.zero_add, List.flatMap_cons, List.getElem?_append_left (List.getElem?_eq_some_iff.1 hu).1]
    exact hu
  | y :: r, i + 1, x, h, j, u, hu => by
    have h' : r[i]? = some x := by simpa using h
    rw [List.flatMap_cons, List.getElem?_append_right (by rw [hs, Nat.add_mul]; omega), hs, show (i + 1) * size + j - size = i * size + j by rw [Nat.add_mul]; omega]
    exact flat_at hs h' hu
theorem flat_len {en : α → List Value} {size : Nat} (hs : ∀ x, (en x).length = size) : ∀ l : List α, (l.flatMap en).length = l.length * size
  | [] => by simp
  | x :: r => by rw [List.flatMap_cons, List.length_append, hs, flat_len hs r, List.length_cons, Nat.add_mul]; omega
theorem OwnL.rd (hs : ∀ x, (en x).length = size) (h : OwnL w base e size en v l) : RdL w size en v l := by
  obtain ⟨hl, h2⟩ := h
  rcases h2 with ⟨rfl, h0⟩ | ⟨g, cap, cur, rfl, hb, hg, hnc, hcm, hcs, htake⟩
  · have : l = [] := List.eq_nil_of_length_eq_zero h0
    subst this
    exact RdL.nil w size en
  · refine ⟨_, cap, rfl, hnc, hcm, fun _ => ⟨g, 0, rfl, ?_, fun i x hx j u hu => ?_⟩⟩
    · rcases Nat.lt_or_ge g w.heap.size with hlt | hge
      · exact hlt
      · rw [Array.getElem?_eq_none hge] at hg; cases hg
    · have h1 := flat_at hs hx hu
      rw [← htake, List.getElem?_take] at h1
      split at h1
      · rw [cell_of_row w g _ cur e (0, 0) hg]
        simpa using h1
      · cases h1
theorem OwnL.kept {row : Option Nat} (h : OwnL w base e size en v l) (hg : w.grownBy w' row) (hne : v.ownBlock = none ∨ v.ownBlock ≠ row) : OwnL w' base e size en v l := World.ownsRow.kept h hg hne
theorem OwnL.below {B : Nat} (h : OwnL w base e size en v l) (hb : Below B w w') (hB : w.heap.size ≤ B) : OwnL w' base e size en v l := by
  obtain ⟨hl, h2⟩ := h
  refine ⟨hl, ?_⟩
  rcases h2 with h2 | ⟨g, cap, cur, hv, hbs, hg, r⟩
  · exact .inl h2
  · refine .inr ⟨g, cap, cur, hv, hbs, ?_, r⟩
    have : g < w.heap.size := by
      rcases Nat.lt_or_ge g w.heap.size with hlt | hge
      · exact hlt
      · rw [Array.getElem?_eq_none hge] at hg; cases hg
    rw [hb.block g (by omega)]
    exact hg
theorem OwnL.mono {b' : Nat} (h : OwnL w base e size en v l) (hb : b' ≤ base) : OwnL w b' e size en v l := by
  obtain ⟨hl, h2⟩ := h
  refine ⟨hl, ?_⟩
  rcases h2 with h2 | ⟨g, cap, cur, hv, hbs, r⟩
  · exact .inl h2
  · exact .inr ⟨g, cap, cur, hv, by omega, r⟩
end
/-- 'append(out, x)': x lies in a new block of its own; out is the call's own. -/
theorem push_law {α : Type} {P : Program} {ops : Array Oper} {rest : List Oper} {o : Oper} {a : Act} {Q : Exit → Act → World → Prop} {w0 wr : World} (hgd : o.guard = none) (s x : Operand) (t : TypeId)
    (ho : o.op = .call { callee := .builtin .append, args := #[s, x], argTypes := #[t, t] }) (base : Nat) (e : TypeId) (i : TypeInfo) (z : Value) (size bytes : Nat)
    (ht : P.underlying t = some (.slice e)) (hi : P.info? e = some i) (hz : i.zero = some z) (hsize : i.size = size) (hby : i.bytes = bytes) (hzs : z.cells.size = size) (hsz : 0 < size)
    (en : α → List Value) (v : Value) (l : List α) (y : α) (hs : a.eval s = v) (hown : OwnL wr base e size en v l) (hx : a.eval x = .slice (some ⟨wr.heap.size, 0, none⟩) 1 1)
    (hlen : (en y).length = size) (hone : ∀ u ∈ en y, u.oneCell' = true) (hb : Below w0.heap.size w0 wr) (hbs : w0.heap.size ≤ base) (hb' : base ≤ wr.heap.size) (hn : l.length < 1099511627776) (hbytes : bytes ≤ 64)
    (h : ∀ v' w', OwnL w' base e size en v' (l ++ [y]) → (wr.alloc (.cells (en y).toArray e)).grownBy w' v.ownBlock → Below w0.heap.size w0 w' → wpList P ops Q rest (a.put o.dst v') w') :
    wpList P ops Q (o :: rest) a (wr.alloc (.cells (en y).toArray e)) := by
  refine wpList_append_own _ hgd s x t ho base e i z size bytes ht hi hz hsize hby hzs hsz v l.length (l.flatMap en) hs (World.ownsRow.alloc hown _) ⟨wr.heap.size, 0, none⟩ 1 1 (en y) hx (by omega) ?_ hone (by unfold maxLen; omega) ?_ (by simp; omega) ?_
  · intro j u hj
    have e1 : (⟨wr.heap.size, 0, none⟩ : Addr).add j = ⟨wr.heap.size, j, none⟩ := by unfold Addr.add; split <;> simp_all
    rw [e1, cell_of_row _ wr.heap.size j (en y).toArray e (0, 0) (heap_alloc_new wr _)]
    simpa using hj
  · calc (l.length + 1) * bytes ≤ 1099511627776 * 64 := Nat.mul_le_mul (by omega) hbytes
      _ ≤ 140737488355328 := by decide
  · intro v' w' hown' hg _
    exact h v' w' (OwnL.snoc hown') hg ((below_alloc hb _).grown hg (Nat.le_trans hb.size (by simp)) (fun k hk => Nat.le_trans hbs (World.ownsRow.lt hown k hk).1))
theorem info_int : (Tryd.prog.info? 3).map (fun i => (i.zero, i.size, i.bytes)) = some (some (.int .i64 0), 1, 8) := by kernel_rfl
theorem one_int (n : Int) : ∀ u ∈ [Value.int .i64 n], u.oneCell' = true := by simp [Value.oneCell']
theorem dropL {α : Type} {l : List α} {k : Nat} {x : α} (h : Hid (l[k]? = some x)) : l.drop k = x :: l.drop (k + 1) := by
  have h' := h.out
  obtain ⟨hk, rfl⟩ := List.getElem?_eq_some_iff.1 h'
  exact List.drop_eq_getElem_cons hk
theorem str_get {w wr : World} {g o : Nat} {l : List ByteArray} (h : Hid (RdFrom w 1 strEn g o l)) (hb : Below w.heap.size w wr) {k : Nat} (hk : k < l.length) :
    ∃ x, Hid (l[k]? = some x) ∧ wr.cell? ⟨g, o + k, none⟩ = some (.string x) := by
  obtain ⟨x, hx, hc⟩ := h.out.get hb hk
  have := hc 0 _ rfl
  rw [Nat.mul_one, Nat.add_zero] at this
  exact ⟨x, hx, this⟩
theorem dropEnd {α : Type} {l : List α} {k : Nat} (h : l.length ≤ k) : l.drop k = [] := List.drop_eq_nil_of_le h
theorem rd_new {w : World} {g n : Nat} {e : TypeId} (l : List ByteArray) (hn : n = l.length) (hl : n ≤ maxLen) (hg : w.heap[g]? = some (.cells (l.map Value.string).toArray e (0, 0))) :
    RdStr w (.slice (some ⟨g, 0, none⟩) n n) l := by
  subst hn
  refine ⟨_, _, rfl, Nat.le_refl _, hl, fun _ => ⟨g, 0, rfl, ?_, fun i x hx j u hu => ?_⟩⟩
  · rcases Nat.lt_or_ge g w.heap.size with hlt | hge
    · exact hlt
    · rw [Array.getElem?_eq_none hge] at hg; cases hg
  · rw [cell_of_row w g _ _ e (0, 0) hg]
    match j, hu with
    | 0, hu =>
      simp [strEn] at hu
      subst hu
      simp [hx]
    | j + 1, hu => simp [strEn] at hu
theorem flat_str (l : List ByteArray) : l.flatMap strEn = l.map Value.string := by
  induction l with
  | nil => rfl
  | cons x r ih => simp [strEn] at ih ⊢; exact ih
theorem info_str : (Tryd.prog.info? 9).map (fun i => (i.zero, i.size, i.bytes)) = some (some (.string ByteArray.empty), 1, 16) := by kernel_rfl
theorem flat_int (l : List Int) : l.flatMap intEn = l.map (Value.int .i64) := by
  induction l with
  | nil => rfl
  | cons x r ih => simp [intEn] at ih ⊢; exact ih
/-- an owned slice that is not empty begins at the head of a block -/
theorem OwnL.at_ {α : Type} {w : World} {base : Nat} {e : TypeId} {size : Nat} {en : α → List Value} {v : Value} {l : List α} (h : OwnL w base e size en v l) (hl : 0 < l.length) :
    ∃ g c, v = .slice (some ⟨g, 0, none⟩) l.length c ∧ base ≤ g ∧ g < w.heap.size ∧ l.length ≤ c ∧ c ≤ 9223372036854775807 := by
  obtain ⟨_, h2⟩ := h
  rcases h2 with ⟨_, h0⟩ | ⟨g, cap, cur, rfl, hb, hg, hnc, hcm, _⟩
  · omega
  · refine ⟨g, cap, rfl, hb, ?_, hnc, by unfold maxLen at hcm; omega⟩
    rcases Nat.lt_or_ge g w.heap.size with hlt | hge
    · exact hlt
    · rw [Array.getElem?_eq_none hge] at hg; cases hg
theorem OwnL.empty {α : Type} {w : World} {base : Nat} {e : TypeId} {size : Nat} {en : α → List Value} {v : Value} {l : List α} (h : OwnL w base e size en v l) (hl : l.length = 0) :
    ∃ A c, v = .slice A 0 c := by
  obtain ⟨_, h2⟩ := h
  rcases h2 with ⟨rfl, _⟩ | ⟨g, cap, cur, rfl, _⟩
  · exact ⟨none, 0, rfl⟩
  · exact ⟨_, cap, by rw [hl]⟩
theorem own_lt {w : World} {base g n c m : Nat} {e : TypeId} {size : Nat} {xs : List Value} (h : w.ownsRow base e size (.slice (some ⟨g, 0, none⟩) n c) m xs) : g < w.heap.size :=
  (World.ownsRow.lt h g rfl).2
theorem row_below {w w' : World} {base B : Nat} {e : TypeId} {size n : Nat} {v : Value} {xs : List Value} (h : w.ownsRow base e size v n xs) (hb : Below B w w') (hB : w.heap.size ≤ B := by exact Nat.le_refl _) : w'.ownsRow base e size v n xs := by
  obtain ⟨h1, h2⟩ := h
  refine ⟨h1, ?_⟩
  rcases h2 with h2 | ⟨g, cap, cur, hv, hbs, hg, r⟩
  · exact .inl h2
  · refine .inr ⟨g, cap, cur, hv, hbs, ?_, r⟩
    have hlt := (Array.getElem?_eq_some_iff.1 hg).1
    rw [hb.block g (by omega)]
    exact hg
theorem grown_refl (w : World) (row : Option Nat) : w.grownBy w row := ⟨rfl, rfl, rfl, Nat.le_refl _, fun _ _ _ => rfl⟩
theorem grown_trans {a b c : World} {row : Option Nat} (h : a.grownBy b row) (k : b.grownBy c row) : a.grownBy c row :=
  ⟨k.os.trans h.os, k.tape.trans h.tape, k.output.trans h.output, Nat.le_trans h.size k.size, fun i hi hne => (k.block i (Nat.lt_of_lt_of_le hi h.size) hne).trans (h.block i hi hne)⟩
theorem rd_new_int {w : World} {g n : Nat} {e : TypeId} (l : List Int) (hn : n = l.length) (hl : n ≤ maxLen) (hg : w.heap[g]? = some (.cells (l.map (Value.int .i64)).toArray e (0, 0))) :
    RdInt w (.slice (some ⟨g, 0, none⟩) n n) l := by
  subst hn
  refine ⟨_, _, rfl, Nat.le_refl _, hl, fun _ => ⟨g, 0, rfl, ?_, fun i x hx j u hu => ?_⟩⟩
  · rcases Nat.lt_or_ge g w.heap.size with hlt | hge
    · exact hlt
    · rw [Array.getElem?_eq_none hge] at hg; cases hg
  · rw [cell_of_row w g _ _ e (0, 0) hg]
    match j, hu with
    | 0, hu =>
      simp [intEn] at hu
      subst hu
      simp [hx]
    | j + 1, hu => simp [intEn] at hu
theorem RdCells.below {w w1 : World} {v : Value} {l : List Pu.CellD} (h : RdCells w v l) (hb : Below w.heap.size w w1) : RdCells w1 v l := ⟨RdL.below h.1 hb (Nat.le_refl _), h.2⟩
theorem OwnL.shape {α : Type} {w : World} {base : Nat} {e : TypeId} {size : Nat} {en : α → List Value} {v : Value} {l : List α} (h : OwnL w base e size en v l) : ∃ A c, v = .slice A l.length c := by
  obtain ⟨_, h2⟩ := h
  rcases h2 with ⟨rfl, h0⟩ | ⟨g, cap, cur, rfl, _⟩
  · exact ⟨none, 0, by rw [h0]⟩
  · exact ⟨_, cap, rfl⟩
theorem five_cells {W : World} {g : Nat} {t : TypeId} {a b c d e : Value} (h : W.heap[g]? = some (.cells #[a, b, c, d, e] t (0, 0))) :
    W.cell? ⟨g, 0, none⟩ = some a ∧ W.cell? ⟨g, 1, none⟩ = some b ∧ W.cell? ⟨g, 2, none⟩ = some c ∧ W.cell? ⟨g, 3, none⟩ = some d ∧ W.cell? ⟨g, 4, none⟩ = some e ∧ ∀ j, W.frozen? ⟨g, j, none⟩ = false :=
  ⟨cell_of_row W g 0 _ t (0, 0) h, cell_of_row W g 1 _ t (0, 0) h, cell_of_row W g 2 _ t (0, 0) h, cell_of_row W g 3 _ t (0, 0) h, cell_of_row W g 4 _ t (0, 0) h, fun j => frozen_of_row W g j _ t h⟩
end Go.Proofs.YtabbgabdbkbjcaaDoor
