/- Ops, as they come in: their shape, read as plain data; the two stamps that stand for no node. -/
import Derived.Test.YtnakanophilfhaaDoorSh
import Derived.Test.YtnakanophilfhaaDoorOd
import Derived.Lib.LaidU8
namespace Go.Proofs.YtnakanophilfhaaDoor
open Go.RowKit Go.Dio
set_option linter.unusedVariables false
set_option linter.unusedSimpArgs false

/-- A stamp's shape. -/
@[reducible] def shStamp : Sh := .pair (.int .i64) (.pair (.int .i64) .unit)
theorem stamp_cells {w : World} {cs : List Value} {x : shStamp.T} (h : shStamp.reads w cs x) : cs = [.int .i64 x.1, .int .i64 x.2.1] := by
  obtain ⟨c1, c2, h0, ⟨rfl, h1⟩, c3, c4, rfl, ⟨rfl, h2⟩, h3⟩ := h
  have : c4 = [] := h3
  subst this
  exact h0
@[reducible] def shValue : Sh := .pair (.int .i64) (.pair (.int .i64) (.pair .str .unit))
theorem value_cells {w : World} {cs : List Value} {x : shValue.T} (h : shValue.reads w cs x) : cs = [.int .i64 x.1, .int .i64 x.2.1, .string x.2.2.1] ∧ x.2.2.1.size ≤ 9223372036854775807 := by
  obtain ⟨c1, c2, h0, ⟨rfl, h1⟩, c3, c4, rfl, ⟨rfl, h2⟩, c5, c6, rfl, ⟨rfl, h3⟩, h4⟩ := h
  have : c6 = [] := h4
  subst this
  exact ⟨h0, h3⟩
theorem stamps_of {w : World} {cs : List Value} {l : (Sh.slice shStamp).T} (h : (Sh.slice shStamp).reads w cs l) : ∃ A n c path, cs = [.slice A n c] ∧ IsSt w A n c path := by
  obtain ⟨A, n, c, rfl, hl, hn, hc, hr⟩ := h
  refine ⟨A, n, c, l.map fun x => (x.1, x.2.1), rfl, by simpa using hl, hn, hc, ?_⟩
  rcases hr with rfl | ⟨b, o, rfl, hr⟩
  · exact .inl rfl
  · refine .inr ⟨b, o, rfl, fun j u hu => ?_⟩
    obtain ⟨i, p, hp, hj⟩ := sv_inv _ j u hu
    rw [List.getElem?_map, Option.map_eq_some_iff] at hp
    obtain ⟨x, hx, rfl⟩ := hp
    obtain ⟨cs, h1, h2, h3⟩ := hr i x hx
    have e := stamp_cells h3
    subst e
    have hz : Sh.size shStamp = 2 := rfl
    rw [hz] at h2
    rcases hj with ⟨rfl, rfl⟩ | ⟨rfl, rfl⟩
    · exact h2 0 _ rfl
    · exact h2 1 _ rfl
/-- An op's shape. -/
@[reducible] def shOp : Sh := .pair (.int .i64) (.pair shStamp (.pair shStamp (.pair .str (.pair (.slice shStamp) (.pair (.int .i64) (.pair shValue (.pair .bool .unit)))))))
theorem op_cells {w : World} {cs : List Value} {x : shOp.T} (h : shOp.reads w cs x) : ∃ d A n c, cs = (oxs d A n c).toList ∧ OpIs w d A n c := by
  obtain ⟨c1, c2, h0, ⟨rfl, _⟩, c3, c4, rfl, hn, c5, c6, rfl, hr, c7, c8, rfl, ⟨rfl, hk⟩, c9, c10, rfl, hp, c11, c12, rfl, ⟨rfl, _⟩, c13, c14, rfl, hv, c15, c16, rfl, ho, hu⟩ := h
  obtain ⟨A, n, c, path, rfl, hst⟩ := stamps_of hp
  obtain ⟨hv1, hv2⟩ := value_cells hv
  have e1 := stamp_cells hn
  have e2 := stamp_cells hr
  have e3 : c15 = [.bool x.2.2.2.2.2.2.2.1] := ho
  have e4 : c16 = [] := hu
  subst e1 e2 e3 e4 hv1 h0
  exact ⟨⟨x.1, x.2.1.1, x.2.1.2.1, x.2.2.1.1, x.2.2.1.2.1, x.2.2.2.1, path, x.2.2.2.2.2.1, x.2.2.2.2.2.2.1.1, x.2.2.2.2.2.2.1.2.1, x.2.2.2.2.2.2.1.2.2.1, x.2.2.2.2.2.2.2.1⟩, A, n, c, rfl, hst, hk, hv2⟩
theorem op_cut {w : World} {a : Array Value} {x : shOp.T} (h : shOp.reads w a.toList x) : ∃ d A n c, a = oxs d A n c ∧ OpIs w d A n c := by
  obtain ⟨d, A, n, c, e, h1⟩ := op_cells h
  exact ⟨d, A, n, c, Array.toList_inj.1 e, h1⟩

/-- A variable of two numbers, out of what is laid. -/
theorem stamp_var {W : World} {l : List (String × DataW Unit)} (h : laidMet Tryd.prog l W) {nm : String} {x y : Int} (hm : (nm, (.agg [.lit (.int .i64 x), .lit (.int .i64 y)] : DataW Unit)) ∈ l) {g0 : Nat} (hgn : Tryd.prog.globalNamed nm = some g0)
    (hty : (Tryd.prog.globals[g0]?).map (·.type) = some 23) : W.cell? ⟨g0, 0, none⟩ = some (.int .i64 x) ∧ W.cell? ⟨g0, 1, none⟩ = some (.int .i64 y) := by
  obtain ⟨g, t, cs, fuel, p, hg, ht, hv, hd⟩ := Lib.laidMet.reads h hm
  obtain rfl := Option.some.inj (hgn.symm.trans hg)
  obtain rfl := Option.some.inj (hty.symm.trans ht)
  have e := Lib.ints_of_struct (zs := [x, y]) Tryd.underlying23 (fun i f hf => by
    match i, hf with
    | 0, hf => simp at hf; subst hf; exact ⟨by kernel_rfl, rfl, by kernel_rfl⟩
    | 1, hf => simp at hf; subst hf; exact ⟨by kernel_rfl, rfl, by kernel_rfl⟩
    | i + 2, hf => simp at hf) (by kernel_rfl) hd
  have c0 := World.var?_cell hgn hv 0
  have c1 := World.var?_cell hgn hv 1
  have e' : cs = #[.int .i64 x, .int .i64 y] := Array.toList_inj.1 e
  subst e'
  exact ⟨c0, c1⟩
theorem roots_of {W : World} {l : List (String × DataW Unit)} (h : laidMet Tryd.prog l W) (h1 : ("diorama/op.root", (.agg [.lit (.int .i64 0), .lit (.int .i64 0)] : DataW Unit)) ∈ l) (h2 : ("diorama/op.trash", (.agg [.lit (.int .i64 0), .lit (.int .i64 1)] : DataW Unit)) ∈ l) : RootsAt W := by
  obtain ⟨a, b⟩ := stamp_var h h1 (g0 := 0) (by kernel_rfl) (by kernel_rfl)
  obtain ⟨c, d⟩ := stamp_var h h2 (g0 := 1) (by kernel_rfl) (by kernel_rfl)
  exact ⟨a, b, c, d⟩
end Go.Proofs.YtnakanophilfhaaDoor
