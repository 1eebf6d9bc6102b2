/- Stamps, for the layer of ops. -/
import Derived.Test.YtnakanophilfhaaDoorProg
import Derived.Test.YtnakanophilfhaaDoorK6
import Derived.Test.YtnakanophilfhaaDoorReg
import Derived.Tactics2
import Derived.WalkKit
namespace Go.Proofs.YtnakanophilfhaaDoor
open Go.RowKit Go.Dio
set_option linter.unusedVariables false
set_option linter.unusedSimpArgs false


/-- A stamp. -/
@[reducible] def stv (t r : Int) : Value := .agg #[.int .i64 t, .int .i64 r]

/-- May it be? -/
def sright (t r : Int) : Bool := decide (0 ≤ t ∧ t ≤ 1099511627776 ∧ 0 ≤ r ∧ r < 16)

theorem Right2_any (t r : Int) (w : World) : Calls Tryd.prog 81 #[stv t r] w fun e w' => e = .returned (.bool (sright t r)) ∧ Below w.heap.size w w' := by
  rcases hs : sright t r with _ | _
  all_goals
    simp only [sright, decide_eq_true_eq, decide_eq_false_iff_not] at hs
    go_enter Tryd.func81, Tryd.ntmps81
    go_wp2_with fail
    all_goals
      go_ret
      refine ⟨?_, below_alloc1 _ _⟩
      first | rfl | (congr 2; simp; omega)
theorem rRight2_any (t r : Int) (w : World) : Calls Tryd.prog 82 #[stv t r] w fun e w' => e = .returned (.bool (sright t r)) ∧ Below w.heap.size w w' := by
  rcases hs : sright t r with _ | _
  all_goals
    simp only [sright, decide_eq_true_eq, decide_eq_false_iff_not] at hs
    go_enter Tryd.func82, Tryd.ntmps82
    go_wp2_with fail
    all_goals
      go_ret
      refine ⟨?_, below_alloc1 _ _⟩
      first | rfl | (congr 2; simp; omega)

end Go.Proofs.YtnakanophilfhaaDoor
