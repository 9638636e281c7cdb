/- The laws' own arguments, opened: what the walk asks of them. -/
import Derived.Test.YtabbgabdbkbjcaaDoorMem
import Derived.SliceStrings
import Derived.Lib.SmallJoins
namespace Go.Proofs.YtabbgabdbkbjcaaDoor
open Go.ChangeShapes Go.WideShapes Go.ChangeAt Go.RowKit
set_option maxRecDepth 100000
def ArgStr (w : World) (v : Value) (l : List ByteArray) : Prop := RdStr w v l ∧ ∀ x ∈ l, x.size ≤ maxLen
theorem add_lit (g o j : Nat) : (⟨g, o, none⟩ : Addr).add j = ⟨g, o + j, none⟩ := by unfold Addr.add; split <;> simp_all
/-- an address at which a cell is read -/
theorem spot_none {w : World} {a : Addr} {u : Value} (h : w.cell? a = some u) : a = ⟨a.block, a.off, none⟩ ∧ a.block < w.heap.size := by
  have hlt := World.block_lt_of_cell? w a h
  refine ⟨?_, hlt⟩
  unfold World.cell? at h
  obtain ⟨b, o, s⟩ := a
  cases s with
  | none => rfl
  | some s =>
    simp only at h
    split at h <;> simp_all
section
variable {H : Type} {enc : TypeId × Value → H} {W : World} {d : DataW H} {p : List MemPlace} {v : Value}
theorem open_strs {base : Nat} (hv : Value.okWide Tryd.prog W .any base 22 v) (h : DataW.Trod enc Tryd.prog W 0 (fun _ => true) true 22 v d p) : ∃ l, ArgStr W v l := by
  obtain ⟨a0, len, cap, rfl⟩ := okWide_slice Tryd.underlying22 hv
  obtain ⟨fuel, hf⟩ := h
  rcases open_strings Tryd.underlying22 Tryd.underlying9 (by kernel_rfl) hf with ⟨hcs, _⟩ | ⟨a, len', cap', ss, hcs, _, hl, hm, hz, _, hcell, hws⟩
  · have e : Value.slice a0 len cap = .slice none 0 0 := by simpa [Value.cells] using hcs
    rw [e]
    exact ⟨[], RdL.nil _ _ _, by simp⟩
  · have e : Value.slice a0 len cap = .slice (some a) len' cap' := by simpa [Value.cells] using hcs
    rw [e]
    simp only [if_true] at hz
    have hlen : (ss.take len').length = len' := by rw [List.length_take]; omega
    refine ⟨ss.take len', ⟨some a, cap', by rw [hlen], by omega, hm, fun h0 => ?_⟩, fun x hx => hws x (List.mem_of_mem_take hx)⟩
    have h00 := hcell 0 (by omega)
    have ha : a.add 0 = a := by simp [Addr.add]
    rw [ha] at h00
    obtain ⟨e1, e2⟩ := spot_none h00
    refine ⟨a.block, a.off, by rw [← e1], e2, fun i x hx j u hu => ?_⟩
    match j, hu with
    | 0, hu =>
      simp [strEn] at hu
      subst hu
      obtain ⟨hi, hxe⟩ := List.getElem?_eq_some_iff.1 hx
      have hci := hcell i (by rw [List.length_take] at hi; omega)
      rw [e1, add_lit] at hci
      rw [Nat.mul_one, Nat.add_zero, hci]
      rw [List.getElem_take] at hxe
      rw [← hxe]
      simp [List.getD_eq_getElem?_getD, List.getElem?_eq_getElem (show i < ss.length by rw [List.length_take] at hi; omega)]
    | j + 1, hu => simp [strEn] at hu
theorem open_bytes {base : Nat} (hv : Value.okWide Tryd.prog W .any base 27 v) (h : DataW.Trod enc Tryd.prog W 0 (fun _ => true) true 27 v d p) : ∃ l, RdL W 1 byteEn v l := by
  obtain ⟨a0, len, cap, rfl⟩ := okWide_slice Tryd.underlying27 hv
  obtain ⟨fuel, hf⟩ := h
  rcases open_ints Tryd.underlying27 Tryd.underlying5 (by kernel_rfl) hf with ⟨hcs, _⟩ | ⟨a, len', cap', zs, hcs, _, hl, hm, hz, _, hcell, hwz⟩
  · have e : Value.slice a0 len cap = .slice none 0 0 := by simpa [Value.cells] using hcs
    rw [e]
    exact ⟨[], RdL.nil _ _ _⟩
  · have e : Value.slice a0 len cap = .slice (some a) len' cap' := by simpa [Value.cells] using hcs
    rw [e]
    simp only [if_true] at hz
    have hlen : ((zs.take len').map fun z => UInt8.ofNat z.toNat).length = len' := by rw [List.length_map, List.length_take]; omega
    refine ⟨(zs.take len').map fun z => UInt8.ofNat z.toNat, some a, cap', by rw [hlen], by omega, hm, fun h0 => ?_⟩
    have h00 := hcell 0 (by omega)
    have ha : a.add 0 = a := by simp [Addr.add]
    rw [ha] at h00
    obtain ⟨e1, e2⟩ := spot_none h00
    refine ⟨a.block, a.off, by rw [← e1], e2, fun i x hx j u hu => ?_⟩
    match j, hu with
    | 0, hu =>
      simp [byteEn] at hu
      subst hu
      rw [List.getElem?_map, Option.map_eq_some_iff] at hx
      obtain ⟨z, hz', rfl⟩ := hx
      obtain ⟨hi, hxe⟩ := List.getElem?_eq_some_iff.1 hz'
      have hil : i < zs.length := by rw [List.length_take] at hi; omega
      have hci := hcell i hil
      rw [e1, add_lit] at hci
      rw [Nat.mul_one, Nat.add_zero, hci]
      rw [List.getElem_take] at hxe
      have hw := hwz _ (List.getElem_mem hil)
      rw [hxe] at hw
      simp [Lit.wf, IntKind.min, IntKind.max, IntKind.signed, IntKind.bits] at hw
      have e3 : zs.getD i 0 = z := by simp [List.getD_eq_getElem?_getD, List.getElem?_eq_getElem hil, hxe]
      rw [e3]
      congr 2
      show z = ((UInt8.ofNat z.toNat).toNat : Int)
      rw [UInt8.toNat_ofNat']
      omega
    | j + 1, hu => simp [byteEn] at hu
theorem cells_str : Tryd.prog.cellsOf 9 = 1 := by kernel_rfl
theorem cells_int : Tryd.prog.cellsOf 3 = 1 := by kernel_rfl
theorem cells_bool : Tryd.prog.cellsOf 4 = 1 := by kernel_rfl
theorem list_of {α : Type} {Q : Nat → α → Prop} : ∀ n : Nat, (∀ i, i < n → ∃ x, Q i x) → ∃ l : List α, l.length = n ∧ ∀ i x, l[i]? = some x → Q i x
  | 0, _ => ⟨[], rfl, fun i x h => by simp at h⟩
  | n + 1, h => by
    obtain ⟨l, hl, hq⟩ := list_of n (fun i hi => h i (by omega))
    obtain ⟨x, hx⟩ := h n (by omega)
    refine ⟨l ++ [x], by simp [hl], fun i y hy => ?_⟩
    by_cases hi : i < l.length
    · rw [List.getElem?_append_left hi] at hy
      exact hq i y hy
    · rw [List.getElem?_append_right (by omega)] at hy
      have h2 := (List.getElem?_eq_some_iff.1 hy).1
      simp at h2
      have h3 : i - l.length = 0 := by omega
      rw [h3] at hy
      simp at hy
      subst hy
      rw [show i = n by omega]
      exact hx
/-- a slice whose elements are read one by one -/
theorem open_list {α : Type} {t e : TypeId} {size base : Nat} (en : α → List Value) (ok : α → Prop) (hu : Tryd.prog.underlying t = some (.slice e)) (hc : Tryd.prog.cellsOf e = size) (hsz : 0 < size) (hlen : ∀ x, (en x).length = size)
    (hdec : ∀ n cs y, DataW.trod enc Tryd.prog W 0 (fun _ => true) true n e cs = some y → ∃ x, cs = en x ∧ ok x)
    (hv : Value.okWide Tryd.prog W .any base t v) (h : DataW.Trod enc Tryd.prog W 0 (fun _ => true) true t v d p) : ∃ l, RdL W size en v l ∧ ∀ x ∈ l, ok x := by
  obtain ⟨a0, len, cap, rfl⟩ := okWide_slice hu hv
  obtain ⟨fuel, hf⟩ := h
  rcases Go.Deep.open_slice hu hf with ⟨hcs, _⟩ | ⟨a, len', cap', m, n, D, Pl, hcs, _, hl, hm, hmm, _, hi⟩
  · have e : Value.slice a0 len cap = .slice none 0 0 := by simpa [Value.cells] using hcs
    rw [e]
    exact ⟨[], RdL.nil _ _ _, by simp⟩
  · have e : Value.slice a0 len cap = .slice (some a) len' cap' := by simpa [Value.cells] using hcs
    rw [e]
    simp only [if_true] at hmm
    rw [hc] at hi
    obtain ⟨l, hll, hq⟩ := list_of (Q := fun i x => W.cells? 0 (a.add (i * size)) size = some (en x) ∧ ok x) len' (fun i hil => by
      obtain ⟨cs', h1, h2⟩ := hi i (by omega)
      obtain ⟨x, rfl, hx⟩ := hdec _ _ _ h2
      exact ⟨x, h1, hx⟩)
    refine ⟨l, ⟨some a, cap', by rw [hll], by omega, hm, fun h0 => ?_⟩, fun x hx => ?_⟩
    · obtain ⟨hw0, _⟩ := hq 0 l[0] (List.getElem?_eq_getElem (by omega))
      obtain ⟨_, _, hat⟩ := World.cells?_some hw0
      have h00 := hat 0 (by omega)
      have hlt0 : 0 < (en l[0]).length := by rw [hlen]; exact hsz
      rw [List.getElem?_eq_getElem hlt0] at h00
      have ha : (a.add (0 * size)).add 0 = a := by simp [Addr.add]
      rw [ha] at h00
      obtain ⟨e1, e2⟩ := spot_none h00
      refine ⟨a.block, a.off, by rw [← e1], e2, fun i x hx j u hu => ?_⟩
      obtain ⟨hwi, _⟩ := hq i x hx
      obtain ⟨_, _, hat⟩ := World.cells?_some hwi
      have hj := hat j (by rw [← hlen x]; exact (List.getElem?_eq_some_iff.1 hu).1)
      rw [e1, add_lit, add_lit] at hj
      exact hj.trans hu
    · obtain ⟨i, hi, rfl⟩ := List.getElem_of_mem hx
      exact (hq i _ (List.getElem?_eq_getElem hi)).2
end
end Go.Proofs.YtabbgabdbkbjcaaDoor
