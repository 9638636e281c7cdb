/- Contracts: what the reference's calls do to a core (keepCall, whole). Written by wip/tools/doesgen.py. -/
import Derived.Test.YtllmcnmongaahaaGreatDoorIKeep
import Derived.Test.YtllmcnmongaahaaGreatDoorIKeep1
import Derived.Test.YtllmcnmongaahaaGreatDoorIKeepM
import Derived.Test.YtllmcnmongaahaaGreatDoorIKeepS
import Derived.Test.YtllmcnmongaahaaGreatDoorIKeepN
namespace Go.Proofs.YtllmcnmongaahaaGreatDoor
open Go.ChangeShapes Go.WideShapes Go.ChangeAt Go.RowKit
set_option maxRecDepth 100000
set_option linter.unusedVariables false
theorem only_row {G g : Nat} {r : Option Nat} {w w' : World} {o : Obj} (h : Only G r w w') (hr : w.heap[g]? = some o) (h1 : g ≠ G) (h2 : some g ≠ r) : w'.heap[g]? = some o := (h g (Array.getElem?_eq_some_iff.1 hr).1 h1 h2).trans hr
theorem only_then {G : Nat} {r : Option Nat} {w w0 w' : World} (hb : Below w.heap.size w w0) (h : Only G r w0 w') : Only G r w w' := fun g hg h1 h2 => (h g (Nat.lt_of_lt_of_le hg hb.size) h1 h2).trans (hb.block g hg)
theorem own_form {α : Type} {w : World} {base : Nat} {e : TypeId} {size : Nat} {en : α → List Value} {v : Value} {l : List α} (h : OwnL w base e size en v l) : (v = .slice none 0 0 ∧ l = []) ∨ ∃ g c, v = .slice (some ⟨g, 0, none⟩) l.length c := by
  rcases h.2 with ⟨rfl, h0⟩ | ⟨g, cap, cur, rfl, _⟩
  · exact .inl ⟨rfl, List.eq_nil_of_length_eq_zero h0⟩
  · exact .inr ⟨g, cap, rfl⟩
theorem flat_set {key : ByteArray} {v : Int} : ∀ {l : List Pu.CellD} {N : Nat} {y : Pu.CellD}, l[N]? = some y → y.key = key → (l.flatMap cellEn).set (N * 2 + 1) (.int .i64 v) = (l.set N ⟨key, v⟩).flatMap cellEn
  | [], _, _, h, _ => by simp at h
  | x :: r, 0, y, h, hk => by
    have e : x = y := by simpa using h
    subst e
    simp [cellEn, hk]
  | x :: r, N + 1, y, h, hk => by
    have ih := flat_set (l := r) (N := N) (v := v) (by simpa using h) hk
    rw [List.flatMap_cons, List.set_cons_succ, List.flatMap_cons, ← ih, show (N + 1) * 2 + 1 = (N * 2 + 1) + 2 by omega]
    simp [cellEn]
theorem bit0_of (k : ByteArray) : bits .and .i64 (Pu.kindF k.toList) 1 = if Pu.hasB (Pu.kindF k.toList) 0 then 1 else 0 := by
  rcases Pu.kind_faces k.toList with h | h | h | h | h | h | h | h <;> rw [h] <;> decide +kernel
theorem iKeep_c (G : Nat) (k m key t : ByteArray) (v : Int) (o b : Bool) (s : Value) (l : List Pu.CellD) (n : Int) (base : Nat) (w : World) (hg : w.heap[G]? = some (.cells #[.string k, .bool o, .bool b, s, .int .i64 n] 31 (0, 0) : Obj)) (hs : OwnL w base 63 2 cellEn s l) (hbG : base ≤ G) (hc : Pu.cellsB l = true) (hn0 : 0 ≤ n) (hn1 : n ≤ 999) (Q : Bool) (hG : (m.toList == [71, 101, 116]) = Q) (R : Pu.CoreD × Pu.ReplyD) (HR : Hid (Pu.keepF Q ⟨k, o, b, l, n⟩ ⟨m, key, v, t⟩ = R)) :
    Calls Tryz.prog 93 #[.pointer (some ⟨G, 0, none⟩), .agg #[.string m, .string key, .int .i64 v, .string t]] w fun e w' => ∃ A' c', e = .returned (replyV R.2) ∧ w'.heap[G]? = some (.cells #[.string R.1.kind, .bool R.1.on, .bool R.1.broken, .slice A' R.1.cells.length c', .int .i64 R.1.count] 31 (0, 0)) ∧ OwnL w' base 63 2 cellEn (.slice A' R.1.cells.length c') R.1.cells ∧ Below base w w' ∧ Only G s.ownBlock w w' := by
  have hlen : l.length ≤ 4 := by simp only [Pu.cellsB, Bool.and_eq_true, decide_eq_true_eq] at hc; exact hc.1
  obtain ⟨F, HF⟩ : ∃ F, Hid (Pu.kindF k.toList = F) := ⟨_, rfl⟩
  have hb0 := bit0_of k
  rw [HF.out] at hb0
  have hr : Pu.hasB (Pu.faceK ⟨k, o, b, l, n⟩) 0 = Pu.hasB F 0 := by rw [← HF.out]; rfl
  have HLOW : Hid (∀ i c, i < Pu.lowN key l → l[i]? = some c → Op.bytesLess c.key.toList key.toList = true) := fun i c hi hc => Pu.lowN_less key l i c hi hc
  have hle := Pu.lowN_le key l
  have main : ∀ q : Bool, Pu.hasB F 0 = q → (q = true → o = true) → Calls Tryz.prog 93 #[.pointer (some ⟨G, 0, none⟩), .agg #[.string m, .string key, .int .i64 v, .string t]] w fun e w' => ∃ A' c', e = .returned (replyV R.2) ∧ w'.heap[G]? = some (.cells #[.string R.1.kind, .bool R.1.on, .bool R.1.broken, .slice A' R.1.cells.length c', .int .i64 R.1.count] 31 (0, 0)) ∧ OwnL w' base 63 2 cellEn (.slice A' R.1.cells.length c') R.1.cells ∧ Below base w w' ∧ Only G s.ownBlock w w' := by
    intro q hq hqo
    have hrr : bits .and .i64 F 1 = 0 ∨ (bits .and .i64 F 1 = 1 ∧ o = true) := by
      rcases q with _ | _
      · left; rw [hb0, hq]; rfl
      · right; exact ⟨by rw [hb0, hq]; rfl, hqo rfl⟩
    have hoff : (Pu.hasB (Pu.faceK ⟨k, o, b, l, n⟩) 0 && !o) = false := by
      rw [hr, hq]; rcases q with _ | _
      · rfl
      · rw [hqo rfl]; rfl
    rcases Nat.lt_or_ge (Pu.lowN key l) l.length with hlt | hge
    · obtain ⟨y, hy⟩ : ∃ y, l[Pu.lowN key l]? = some y := ⟨_, List.getElem?_eq_getElem hlt⟩
      obtain ⟨h1, h2, h3⟩ := Pu.lowN_at key l y hy
      rcases hh : (y.key.toList == key.toList) with _ | _
      · rw [hh] at h2
        have HP : l.take (Pu.lowN key l) ++ [⟨key, v⟩] ++ l.drop (Pu.lowN key l) = Pu.putC key v l := by rw [Pu.putC_low, h2]; simp
        rcases Q with _ | _
        · rcases Nat.lt_or_ge l.length 4 with h4 | h4
          · exact iKeep_insm G k m key t v o b s l n base w R F HF hrr hg hs hbG hlen hn0 hn1 hG (Pu.lowN key l) hlt y hy h1 hh HLOW (by omega) (Pu.putC key v l) HP (by rw [Hid, ← HR.out]; simp [Pu.keepF, hoff, h2, show ¬ 4 ≤ l.length by omega])
          · have HN : Hid (R = (⟨k, o, b, l, n⟩, Pu.rp 5 0)) := by rw [Hid, ← HR.out]; simp [Pu.keepF, hoff, h2, h4]
            rcases hrr with hbit | ⟨hbit, rfl⟩
            · exact iKeep_fullm0 G k m key t v o b s l n base w R F HF hbit hg hs hbG hlen hn0 hn1 hG (Pu.lowN key l) hlt y hy h1 hh HLOW (by omega) HN
            · exact iKeep_fullm1 G k m key t v b s l n base w R F HF hbit hg hs hbG hlen hn0 hn1 hG (Pu.lowN key l) hlt y hy h1 hh HLOW (by omega) HN
        · have HN : Hid (R = (⟨k, o, b, l, n⟩, Pu.rp 4 0)) := by rw [Hid, ← HR.out]; simp [Pu.keepF, hoff, h2]
          rcases hrr with hbit | ⟨hbit, rfl⟩
          · exact iKeep_nonem0 G k m key t v o b s l n base w R F HF hbit hg hs hbG hlen hn0 hn1 hG (Pu.lowN key l) hlt y hy h1 hh HLOW HN
          · exact iKeep_nonem1 G k m key t v b s l n base w R F HF hbit hg hs hbG hlen hn0 hn1 hG (Pu.lowN key l) hlt y hy h1 hh HLOW HN
      · rw [hh] at h2
        rcases Q with _ | _
        · have HL : Hid ((Pu.putC key v l).length = l.length ∧ (l.flatMap cellEn).set (Pu.lowN key l * 2 + 1) (.int .i64 v) = (Pu.putC key v l).flatMap cellEn) := by
            rw [Hid, Pu.putC_set h2]
            exact ⟨by simp, flat_set hy (Pu.eqL.1 hh)⟩
          have HN : Hid (R = (⟨k, o, b, Pu.putC key v l, Pu.upF n⟩, Pu.rp 0 (Pu.putC key v l).length)) := by rw [Hid, ← HR.out]; simp [Pu.keepF, hoff, h2]
          rcases hrr with hbit | ⟨hbit, rfl⟩
          · exact iKeep_set0 G k m key t v o b s l n base w R F HF hbit hg hs hbG hlen hn0 hn1 hG (Pu.lowN key l) hlt y hy h1 hh HLOW (Pu.putC key v l) HL HN
          · exact iKeep_set1 G k m key t v b s l n base w R F HF hbit hg hs hbG hlen hn0 hn1 hG (Pu.lowN key l) hlt y hy h1 hh HLOW (Pu.putC key v l) HL HN
        · have HN : Hid (R = (⟨k, o, b, l, n⟩, Pu.rp 0 y.val)) := by rw [Hid, ← HR.out]; simp [Pu.keepF, hoff, h2, h3]
          rcases hrr with hbit | ⟨hbit, rfl⟩
          · exact iKeep_got0 G k m key t v o b s l n base w R F HF hbit hg hs hbG hlen hn0 hn1 hG (Pu.lowN key l) hlt y hy h1 hh HLOW HN
          · exact iKeep_got1 G k m key t v b s l n base w R F HF hbit hg hs hbG hlen hn0 hn1 hG (Pu.lowN key l) hlt y hy h1 hh HLOW HN
    · have hN : l.length = Pu.lowN key l := by omega
      have h2 := Pu.lowN_end key l hge
      have HP : l.take (Pu.lowN key l) ++ [⟨key, v⟩] ++ l.drop (Pu.lowN key l) = Pu.putC key v l := by rw [Pu.putC_low, h2]; simp
      rcases Q with _ | _
      · rcases Nat.lt_or_ge l.length 4 with h4 | h4
        · have HN : Hid (R = (⟨k, o, b, Pu.putC key v l, Pu.upF n⟩, Pu.rp 0 (Pu.putC key v l).length)) := by rw [Hid, ← HR.out]; simp [Pu.keepF, hoff, h2, show ¬ 4 ≤ l.length by omega]
          rcases own_form hs with ⟨rfl, rfl⟩ | ⟨gs, c, rfl⟩
          · exact iKeep_insn G k m key t v o b n base w R F HF hrr hg hs hbG hn0 hn1 hG (Pu.putC key v []) rfl HN
          · exact iKeep_inss G k m key t v o b gs c l.length l n base w R F HF hrr hg hs hbG hlen hn0 hn1 hG rfl (by rw [hN]; exact HLOW) (by omega) (Pu.putC key v l) (by rw [hN]; exact HP) HN
        · have HN : Hid (R = (⟨k, o, b, l, n⟩, Pu.rp 5 0)) := by rw [Hid, ← HR.out]; simp [Pu.keepF, hoff, h2, h4]
          rcases hrr with hbit | ⟨hbit, rfl⟩
          · exact iKeep_fulle0 G k m key t v o b s l n base w R F HF hbit hg hs hbG hlen hn0 hn1 hG (Pu.lowN key l) hN HLOW (by omega) HN
          · exact iKeep_fulle1 G k m key t v b s l n base w R F HF hbit hg hs hbG hlen hn0 hn1 hG (Pu.lowN key l) hN HLOW (by omega) HN
      · have HN : Hid (R = (⟨k, o, b, l, n⟩, Pu.rp 4 0)) := by rw [Hid, ← HR.out]; simp [Pu.keepF, hoff, h2]
        rcases hrr with hbit | ⟨hbit, rfl⟩
        · exact iKeep_nonee0 G k m key t v o b s l n base w R F HF hbit hg hs hbG hlen hn0 hn1 hG (Pu.lowN key l) hN HLOW HN
        · exact iKeep_nonee1 G k m key t v b s l n base w R F HF hbit hg hs hbG hlen hn0 hn1 hG (Pu.lowN key l) hN HLOW HN
  rcases hq : Pu.hasB F 0 with _ | _
  · exact main false hq (fun h => by cases h)
  · rcases o with _ | _
    · exact iKeep_off G k m key t v b Q s l n base w R F HF (by rw [hb0, hq]; rfl) hg hs hbG hlen hn0 hn1 hG (by rw [Hid, ← HR.out]; simp [Pu.keepF, hr, hq])
    · exact main true hq (fun _ => rfl)
end Go.Proofs.YtllmcnmongaahaaGreatDoor
