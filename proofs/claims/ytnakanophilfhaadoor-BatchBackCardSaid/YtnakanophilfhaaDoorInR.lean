/- Regions that keep their order, one operation at a time, by hand. -/
import Derived.Test.YtnakanophilfhaaDoorK
import Derived.Test.YtnakanophilfhaaDoorReg
namespace Go.Dio
open Go.RowKit
section
variable {P : Program} {ops : Array Oper} {rest : List Oper} {o : Oper} {a : Act} {Q : Exit → Act → World → Prop} {w : World}
/-- What yields its value. -/
theorem inT {v : Value} (hw : Region.wanted o (yielded ops a.tmps) = true) (hy : (execOp a.eval o).run P w = .ok (.value v) w) (h : wpList P ops Q rest (a.put o.dst v) w) : wpList P ops Q (o :: rest) a w := by
  refine wpList_step fun K hK => ?_
  rw [if_pos hw]
  unfold Oper.wp
  rw [hy]
  exact hK _ _ h
/-- What is not wanted. -/
theorem inU (hw : Region.wanted o (yielded ops a.tmps) = false) (h : wpList P ops Q rest (a.put o.dst undef) w) : wpList P ops Q (o :: rest) a w := by
  refine wpList_step fun K hK => ?_
  rw [if_neg (by simp [hw])]
  exact hK _ _ h
/-- A call, or what changes the world. -/
theorem inC (hw : Region.wanted o (yielded ops a.tmps) = true) (h : ∀ K : Act → World → Prop, Shut (∀ a w, wpList P ops Q rest a w → K a w) → o.wp P a w K Q) : wpList P ops Q (o :: rest) a w := by
  refine wpList_step fun K hK => ?_
  rw [if_pos hw]
  exact h K hK
theorem inDone (h : Q .normal a w) : wpList P ops Q [] a w := h
end
end Go.Dio
