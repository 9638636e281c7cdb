/- Replies that a law takes, opened. -/
import Derived.Test.YtfmjcmhofjibmaaDoorOpen
import Derived.Test.YtfmjcmhofjibmaaDoorReply
namespace Go.Proofs.YtfmjcmhofjibmaaDoor
open Go.ChangeShapes Go.WideShapes Go.ChangeAt Go.RowKit
set_option maxRecDepth 100000
def ReplyD.wf (r : Pu.ReplyD) : Prop := (Lit.int .i64 r.code).wf = true ∧ (Lit.int .i64 r.value).wf = true ∧ r.text.size ≤ maxLen ∧ (Lit.int .i64 r.want).wf = true ∧ (Lit.int .i64 r.had).wf = true
def IsReplyV (v : Value) (r : Pu.ReplyD) : Prop := ReplyD.wf r ∧ v = replyV r
section
variable {H : Type} {enc : TypeId × Value → H} {W : World}
theorem reply_of {n : Nat} {cs : List Value} {y : DataW H × List MemPlace} (h : DataW.trod enc Tryd.prog W 0 (fun _ => true) true n 32 cs = some y) : ∃ c : Pu.ReplyD, cs = replyEn c ∧ ReplyD.wf c := by
  obtain ⟨xs, m, _, _, hl, hx, hf⟩ := DataW.trod_struct Tryd.underlying32 h
  have hlen : cs.length = 5 := hl.trans (by kernel_rfl)
  match cs, hlen with
  | [c0, c1, c2, c3, c4], _ =>
    match xs, hx with
    | [y0, y1, y2, y3, y4], _ =>
      have h0 : DataW.trod enc Tryd.prog W 0 (fun _ => true) true m 3 [c0] = some y0 := by have := hf 0 _ rfl; simpa [cells_int] using this
      have h1 : DataW.trod enc Tryd.prog W 0 (fun _ => true) true m 3 [c1] = some y1 := by have := hf 1 _ rfl; simpa [cells_int] using this
      have h2 : DataW.trod enc Tryd.prog W 0 (fun _ => true) true m 9 [c2] = some y2 := by have := hf 2 _ rfl; simpa [cells_str, cells_int] using this
      have h3 : DataW.trod enc Tryd.prog W 0 (fun _ => true) true m 3 [c3] = some y3 := by have := hf 3 _ rfl; simpa [cells_str, cells_int] using this
      have h4 : DataW.trod enc Tryd.prog W 0 (fun _ => true) true m 3 [c4] = some y4 := by have := hf 4 _ rfl; simpa [cells_str, cells_int] using this
      obtain ⟨a, e0, _, ha⟩ := DataW.trod_int Tryd.underlying3 h0
      obtain ⟨b, e1, _, hb⟩ := DataW.trod_int Tryd.underlying3 h1
      obtain ⟨t, e2, _, ht⟩ := DataW.trod_string Tryd.underlying9 h2
      obtain ⟨c, e3, _, hc⟩ := DataW.trod_int Tryd.underlying3 h3
      obtain ⟨d, e4, _, hd⟩ := DataW.trod_int Tryd.underlying3 h4
      simp only [List.cons.injEq, and_true] at e0 e1 e2 e3 e4
      subst e0 e1 e2 e3 e4
      exact ⟨⟨a, b, t, c, d⟩, rfl, ha, hb, ht, hc, hd⟩
theorem open_reply {base : Nat} {v : Value} {d : DataW H} {p : List MemPlace} (hv : Value.okWide Tryd.prog W .any base 32 v) (h : DataW.Trod enc Tryd.prog W 0 (fun _ => true) true 32 v d p) : ∃ a, IsReplyV v a := by
  obtain ⟨cs, rfl, _⟩ := okWide_struct Tryd.underlying32 hv
  obtain ⟨fuel, hf⟩ := h
  obtain ⟨c, e, hw⟩ := reply_of hf
  have e' : cs = #[.int .i64 c.code, .int .i64 c.value, .string c.text, .int .i64 c.want, .int .i64 c.had] := by simpa [Value.cells, replyEn, ← Array.toList_inj] using e
  rw [e']
  exact ⟨c, hw, rfl⟩
end
end Go.Proofs.YtfmjcmhofjibmaaDoor
