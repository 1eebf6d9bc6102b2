/- ValueBack: the walk. -/
import Derived.Test.YtdbghnfmhgjkaaaDoorLawVN
import Derived.Test.YtdbghnfmhgjkaaaDoorLawVO
import Derived.Test.YtdbghnfmhgjkaaaDoorShV
namespace Go.Proofs.YtdbghnfmhgjkaaaDoor
open Go.RowKit Go.Dio
set_option linter.unusedVariables false
set_option linter.unusedSimpArgs false
/-- The walk, from what comes in. -/
theorem ValueBack_row (a : Array Value) (x : shValue.T) (s : ByteArray) (w : World) (ha : shValue.reads w a.toList x) (hs : s.size ≤ 140737488351232) (hp : PowTab w) (he : ErrsAt w) :
    Calls Tryd.prog 14 #[.agg a, .string s] w fun e w' => e = .returned (.bool true) ∧ Below w.heap.size w w' := by
  have hc := value_cells ha
  rw [value_cut ha]
  rcases hr : vright x.1 x.2.1 x.2.2.1 with _ | _
  · exact ValueBack_no _ _ _ s w hc.2.2.2 (by omega) hp he hr
  · exact ValueBack_ok _ _ _ s w hc.2.2.2 (by omega) hp he hr
end Go.Proofs.YtdbghnfmhgjkaaaDoor
