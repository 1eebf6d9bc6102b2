/- StampForms: the walk, from what comes in. -/
import Derived.Test.YtdbghnfmhgjkaaaDoorSFok
import Derived.Test.YtdbghnfmhgjkaaaDoorSFno
namespace Go.Proofs.YtdbghnfmhgjkaaaDoor
open Go.RowKit Go.Dio
set_option linter.unusedVariables false
theorem StampForms_row (a0 : Array Value) (x0 : shStamp.T) (a1 : Array Value) (x1 : shStamp.T) (A2 : Option Addr) (n2 c2 : Nat) (l : (Sh.slice shStamp).T) (A : Option Addr) (n c : Nat) (xs : List UInt8) (s : ByteArray) (w : World)
    (h0 : shStamp.reads w a0.toList x0) (h1 : shStamp.reads w a1.toList x1) (hl : (Sh.slice shStamp).reads w [.slice A2 n2 c2] l) (hl2 : n2 * 16 ≤ 140737488351232) (h : IsB w A n c xs) (hn : n ≤ 140737488351232) (hs : s.size ≤ 140737488351232) (hp : PowTab w) (he : ErrsAt w) :
    Calls Tryd.prog 12 #[.agg a0, .agg a1, .slice A2 n2 c2, .slice A n c, .string s] w fun e w' => e = .returned (.bool true) ∧ Below w.heap.size w w' := by
  have hc := stamp_cells h0
  rw [stamp_cut h0, stamp_cut h1]
  rcases hr : sright x0.1 x0.2.1 with _ | _
  · exact StampForms_no _ _ _ _ A2 n2 c2 _ A n c xs s w (i64_bd hc.2.1) (i64_bd hc.2.2) (sts_of hl) hl2 h hn hs hp he hr
  · exact StampForms_ok _ _ _ _ A2 n2 c2 _ A n c xs s w (i64_bd hc.2.1) (i64_bd hc.2.2) (sts_of hl) hl2 h hn hs hp he hr
end Go.Proofs.YtdbghnfmhgjkaaaDoor
