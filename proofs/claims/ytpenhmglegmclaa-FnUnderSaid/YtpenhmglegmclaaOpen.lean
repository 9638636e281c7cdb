/- The laws' own arguments, opened: what the walk asks of them. -/
import Derived.Test.YtpenhmglegmclaaMem
import Derived.SliceStrings
import Derived.Lib.SmallJoins
namespace Go.Proofs.Ytpenhmglegmclaa
open Go.ChangeShapes Go.WideShapes Go.ChangeAt Go.RowKit
def ArgStr (w : World) (v : Value) (l : List ByteArray) : Prop := RdStr w v l ∧ ∀ x ∈ l, x.size ≤ maxLen
theorem add_lit (g o j : Nat) : (⟨g, o, none⟩ : Addr).add j = ⟨g, o + j, none⟩ := by unfold Addr.add; split <;> simp_all
/-- an address at which a cell is read -/
theorem spot_none {w : World} {a : Addr} {u : Value} (h : w.cell? a = some u) : a = ⟨a.block, a.off, none⟩ ∧ a.block < w.heap.size := by
  have hlt := World.block_lt_of_cell? w a h
  refine ⟨?_, hlt⟩
  unfold World.cell? at h
  obtain ⟨b, o, s⟩ := a
  cases s with
  | none => rfl
  | some s =>
    simp only at h
    split at h <;> simp_all
section
variable {H : Type} {enc : TypeId × Value → H} {W : World} {d : DataW H} {p : List MemPlace} {v : Value}
theorem open_strs {base : Nat} (hv : Value.okWide Try.prog W .any base 38 v) (h : DataW.Trod enc Try.prog W 0 (fun _ => true) true 38 v d p) : ∃ l, ArgStr W v l := by
  obtain ⟨a0, len, cap, rfl⟩ := okWide_slice Try.underlying38 hv
  obtain ⟨fuel, hf⟩ := h
  rcases open_strings Try.underlying38 Try.underlying9 (by kernel_rfl) hf with ⟨hcs, _⟩ | ⟨a, len', cap', ss, hcs, _, hl, hm, hz, _, hcell, hws⟩
  · have e : Value.slice a0 len cap = .slice none 0 0 := by simpa [Value.cells] using hcs
    rw [e]
    exact ⟨[], RdL.nil _ _ _, by simp⟩
  · have e : Value.slice a0 len cap = .slice (some a) len' cap' := by simpa [Value.cells] using hcs
    rw [e]
    simp only [if_true] at hz
    have hlen : (ss.take len').length = len' := by rw [List.length_take]; omega
    refine ⟨ss.take len', ⟨some a, cap', by rw [hlen], by omega, hm, fun h0 => ?_⟩, fun x hx => hws x (List.mem_of_mem_take hx)⟩
    have h00 := hcell 0 (by omega)
    have ha : a.add 0 = a := by simp [Addr.add]
    rw [ha] at h00
    obtain ⟨e1, e2⟩ := spot_none h00
    refine ⟨a.block, a.off, by rw [← e1], e2, fun i x hx j u hu => ?_⟩
    match j, hu with
    | 0, hu =>
      simp [strEn] at hu
      subst hu
      obtain ⟨hi, hxe⟩ := List.getElem?_eq_some_iff.1 hx
      have hci := hcell i (by rw [List.length_take] at hi; omega)
      rw [e1, add_lit] at hci
      rw [Nat.mul_one, Nat.add_zero, hci]
      rw [List.getElem_take] at hxe
      rw [← hxe]
      simp [List.getD_eq_getElem?_getD, List.getElem?_eq_getElem (show i < ss.length by rw [List.length_take] at hi; omega)]
    | j + 1, hu => simp [strEn] at hu
theorem open_bytes {base : Nat} (hv : Value.okWide Try.prog W .any base 32 v) (h : DataW.Trod enc Try.prog W 0 (fun _ => true) true 32 v d p) : ∃ l, RdL W 1 byteEn v l := by
  obtain ⟨a0, len, cap, rfl⟩ := okWide_slice Try.underlying32 hv
  obtain ⟨fuel, hf⟩ := h
  rcases open_ints Try.underlying32 Try.underlying5 (by kernel_rfl) hf with ⟨hcs, _⟩ | ⟨a, len', cap', zs, hcs, _, hl, hm, hz, _, hcell, hwz⟩
  · have e : Value.slice a0 len cap = .slice none 0 0 := by simpa [Value.cells] using hcs
    rw [e]
    exact ⟨[], RdL.nil _ _ _⟩
  · have e : Value.slice a0 len cap = .slice (some a) len' cap' := by simpa [Value.cells] using hcs
    rw [e]
    simp only [if_true] at hz
    have hlen : ((zs.take len').map fun z => UInt8.ofNat z.toNat).length = len' := by rw [List.length_map, List.length_take]; omega
    refine ⟨(zs.take len').map fun z => UInt8.ofNat z.toNat, some a, cap', by rw [hlen], by omega, hm, fun h0 => ?_⟩
    have h00 := hcell 0 (by omega)
    have ha : a.add 0 = a := by simp [Addr.add]
    rw [ha] at h00
    obtain ⟨e1, e2⟩ := spot_none h00
    refine ⟨a.block, a.off, by rw [← e1], e2, fun i x hx j u hu => ?_⟩
    match j, hu with
    | 0, hu =>
      simp [byteEn] at hu
      subst hu
      rw [List.getElem?_map, Option.map_eq_some_iff] at hx
      obtain ⟨z, hz', rfl⟩ := hx
      obtain ⟨hi, hxe⟩ := List.getElem?_eq_some_iff.1 hz'
      have hil : i < zs.length := by rw [List.length_take] at hi; omega
      have hci := hcell i hil
      rw [e1, add_lit] at hci
      rw [Nat.mul_one, Nat.add_zero, hci]
      rw [List.getElem_take] at hxe
      have hw := hwz _ (List.getElem_mem hil)
      rw [hxe] at hw
      simp [Lit.wf, IntKind.min, IntKind.max, IntKind.signed, IntKind.bits] at hw
      have e3 : zs.getD i 0 = z := by simp [List.getD_eq_getElem?_getD, List.getElem?_eq_getElem hil, hxe]
      rw [e3]
      congr 2
      show z = ((UInt8.ofNat z.toNat).toNat : Int)
      rw [UInt8.toNat_ofNat']
      omega
    | j + 1, hu => simp [byteEn] at hu
end
end Go.Proofs.Ytpenhmglegmclaa
