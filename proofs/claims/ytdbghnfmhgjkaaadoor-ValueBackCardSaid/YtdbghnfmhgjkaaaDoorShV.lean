/- Values, as they come in; the walk of ValueTimes over them. -/
import Derived.Test.YtdbghnfmhgjkaaaDoorSh
import Derived.Test.YtdbghnfmhgjkaaaDoorVaH
namespace Go.Proofs.YtdbghnfmhgjkaaaDoor
open Go.RowKit Go.Dio
set_option linter.unusedVariables false
set_option linter.unusedSimpArgs false

/-- A value's shape. -/
@[reducible] def shValue : Sh := .pair (.int .i64) (.pair (.int .i64) (.pair .str .unit))
theorem value_cells {w : World} {cs : List Value} {x : shValue.T} (h : shValue.reads w cs x) : cs = [.int .i64 x.1, .int .i64 x.2.1, .string x.2.2.1] ∧ (Lit.int .i64 x.1).wf = true ∧ (Lit.int .i64 x.2.1).wf = true ∧ x.2.2.1.size ≤ 9223372036854775807 := by
  obtain ⟨c1, c2, h0, ⟨rfl, h1⟩, c3, c4, rfl, ⟨rfl, h2⟩, c5, c6, rfl, ⟨rfl, h3⟩, h4⟩ := h
  have : c6 = [] := h4
  subst this
  exact ⟨h0, h1, h2, h3⟩
theorem value_cut {w : World} {a : Array Value} {x : shValue.T} (h : shValue.reads w a.toList x) : a = #[.int .i64 x.1, .int .i64 x.2.1, .string x.2.2.1] := Array.toList_inj.1 (value_cells h).1
theorem ValueTimes_row (a : Array Value) (x : shValue.T) (b : Array Value) (y : shValue.T) (w : World) (ha : shValue.reads w a.toList x) (hb : shValue.reads w b.toList y) :
    Calls Tryd.prog 7 #[.agg a, .agg b] w fun e w' => e = .returned (.bool true) ∧ Below w.heap.size w w' := by
  rw [value_cut ha, value_cut hb]
  exact ValueTimes_walk _ _ _ _ _ _ w (value_cells ha).2.2.2 (value_cells hb).2.2.2
end Go.Proofs.YtdbghnfmhgjkaaaDoor
