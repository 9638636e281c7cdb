/- '==' on structs of a string and an int. -/
import Derived.Test.YtajoafjkgifblaaMem
import Derived.Laws.StructEq
import Derived.ChangeKeysEq
namespace Go.Proofs.Ytajoafjkgifblaa
open Go.ChangeShapes Go.WideShapes Go.ChangeAt Go.RowKit
theorem Pu.take_map {α β : Type} {f : α → β} {l m : List α} {k : Nat} {x y : α} (h : (l.map f).take k = (m.map f).take k) (hx : l[k]? = some x) (hy : m[k]? = some y) (hf : f x = f y) : (l.map f).take (k + 1) = (m.map f).take (k + 1) := by
  rw [List.take_add_one, List.take_add_one, h, List.getElem?_map, List.getElem?_map, hx, hy, Option.map_some, Option.map_some, hf]
theorem Pu.map_ne {α β : Type} {f : α → β} {l m : List α} {k : Nat} {x y : α} (hx : l[k]? = some x) (hy : m[k]? = some y) (hf : f x ≠ f y) : l.map f ≠ m.map f := fun h => by
  have := congrArg (·[k]?) h
  simp only [List.getElem?_map, hx, hy, Option.map_some, Option.some.injEq] at this
  exact hf this
theorem neq_pair {t ts ti : TypeId} {n0 n1 : String} (k k' : ByteArray) (v v' : Int) (w : World)
    (h1 : Try.prog.stoodInHeld t = false) (h2 : (Try.prog.fieldsOf t).toList.map (fun f => (f.name, f.type, f.offset)) = [(n0, ts, 0), (n1, ti, 1)])
    (h3 : Try.prog.underlying t = some (.struct (Try.prog.fieldsOf t))) (h4 : Try.prog.underlying ts = some .string) (h5 : Try.prog.underlying ti = some (.int .i64)) (h6 : Try.prog.plainKey ts = true) (h7 : Try.prog.plainKey ti = true) (hn0 : n0 ≠ "_") (hn1 : n1 ≠ "_") :
    (binOp .neq t (.agg #[.string k, .int .i64 v]) (.agg #[.string k', .int .i64 v'])).run Try.prog w = .ok (.bool (!(k.toList == k'.toList && v == v'))) w := by
  rw [run_neq_struct, show (10000 : Nat) = 9998 + 1 + 1 from rfl, run_equalIn_agg _ _ _ _ _ h3 h1]
  generalize (Try.prog.fieldsOf t).toList = fs at h2
  match fs, h2 with
  | [a, b], h2 =>
    simp only [List.map_cons, List.map_nil, List.cons.injEq, Prod.mk.injEq, and_true] at h2
    obtain ⟨⟨ha1, ha2, ha3⟩, hb1, hb2, hb3⟩ := h2
    have e1 : (part ts #[.string k, .int .i64 v] 0).run Try.prog w = .ok (.string k) w := run_part_plain w h6 rfl
    have e2 : (part ts #[.string k', .int .i64 v'] 0).run Try.prog w = .ok (.string k') w := run_part_plain w h6 rfl
    have e3 : (part ti #[.string k, .int .i64 v] 1).run Try.prog w = .ok (.int .i64 v) w := run_part_plain w h7 rfl
    have e4 : (part ti #[.string k', .int .i64 v'] 1).run Try.prog w = .ok (.int .i64 v') w := run_part_plain w h7 rfl
    simp only [Op.eqFields, ha1, ha2, ha3, hb1, hb2, hb3, hn0, hn1, ne_eq, not_false_eq_true, if_true, Sem.run_bind, e1, e2, Result.andThen_ok, run_equalIn_string _ _ _ _ _ h4]
    have e5 : (v == v') = decide (v = v') := rfl
    rcases k.toList == k'.toList <;> rcases hd : decide (v = v') <;> simp [e5, hd, e3, e4, Result.andThen_ok, run_equalIn_int _ _ _ _ _ _ _ h5]
  | [], h2 => simp at h2
  | [_], h2 => simp at h2
  | _ :: _ :: _ :: _, h2 => simp at h2
theorem neq_cell (k k' : ByteArray) (v v' : Int) (w : World) : (binOp .neq 63 (.agg #[.string k, .int .i64 v]) (.agg #[.string k', .int .i64 v'])).run Try.prog w = .ok (.bool (!(k.toList == k'.toList && v == v'))) w :=
  neq_pair (n0 := "Key") (n1 := "Value") k k' v v' w (by kernel_rfl) (by kernel_rfl) (by kernel_rfl) Try.underlying9 Try.underlying3 (by kernel_rfl) (by kernel_rfl) (by decide) (by decide)
theorem guard_cell : Try.prog.eqGuardType Try.prog.depth 63 = false := by kernel_rfl
theorem neq_layer (k k' : ByteArray) (v v' : Int) (w : World) : (binOp .neq 77 (.agg #[.string k, .int .i64 v]) (.agg #[.string k', .int .i64 v'])).run Try.prog w = .ok (.bool (!(k.toList == k'.toList && v == v'))) w :=
  neq_pair (n0 := "Name") (n1 := "Count") k k' v v' w (by kernel_rfl) (by kernel_rfl) (by kernel_rfl) Try.underlying9 Try.underlying3 (by kernel_rfl) (by kernel_rfl) (by decide) (by decide)
theorem guard_layer : Try.prog.eqGuardType Try.prog.depth 77 = false := by kernel_rfl
end Go.Proofs.Ytajoafjkgifblaa
