/- StampNil: the walk. -/
import Derived.Test.YtdbghnfmhgjkaaaDoorStD
import Derived.Test.YtdbghnfmhgjkaaaDoorShS
namespace Go.Proofs.YtdbghnfmhgjkaaaDoor
open Go.RowKit Go.Dio
set_option linter.unusedVariables false
set_option linter.unusedSimpArgs false

set_option maxRecDepth 100000 in
set_option maxHeartbeats 1000000 in
theorem StampNil_walk (n t r : Int) (w : World) :
    Calls Tryd.prog 4 #[.int .i64 n, stv t r] w fun e w' => e = .returned (.bool true) ∧ Below w.heap.size w w' := by
  go_enter Tryd.func4, Tryd.ntmps4
  go_wp2_with fail
  go_loopw [5, 6] (fun v5 v6 wr => ∃ i : Nat, i ≤ 2 ∧ v6 = .int .i64 i ∧ NoClk wr v5 ∧ Below w.heap.size w wr ∧ wr.cell? ⟨w.heap.size, 0, none⟩ = some (.int .i64 t) ∧ wr.cell? ⟨w.heap.size, 1, none⟩ = some (.int .i64 r)) (fun _ v6 _ => 2 - (intOf v6).toNat)
  case atStart => exact ⟨0, by omega, rfl, .inl rfl, below_alloc1 _ _, cell_of (new_at _ _) 0 rfl, cell_of (new_at _ _) 1 rfl⟩
  case round =>
    obtain ⟨i, hi, rfl, hr, hb, q0, q1⟩ := hrel
    have HB := hid hb; clear hb
    have HR := hid hr; clear hr
    by_cases hlt : i < 2
    · go_wp2_with fail
      refine (Next2_no _ n _ HR.out).mono ?_
      rintro e w1 ⟨rfl, hb⟩
      have HR1 := hid (HR.out.below hb)
      have HB1 := hid (below_then HB.out hb)
      have p0 : w1.cell? ⟨w.heap.size, 0, none⟩ = some (.int .i64 t) := by rw [hb.cell (World.block_lt_of_cell? _ _ q0)]; exact q0
      have p1 : w1.cell? ⟨w.heap.size, 1, none⟩ = some (.int .i64 r) := by rw [hb.cell (World.block_lt_of_cell? _ _ q1)]; exact q1
      clear hb q0 q1
      go_wp2_with fail
      have HR2 := hid (HR1.out.below (below_alloc1 w1 (Obj.cells #[Value.int IntKind.i64 0, Value.int IntKind.i64 0] 33)))
      have HB2 := hid (below_new HB1.out (Obj.cells #[Value.int IntKind.i64 0, Value.int IntKind.i64 0] 33))
      have r0 := hid (below_alloc1 w1 (Obj.cells #[Value.int IntKind.i64 0, Value.int IntKind.i64 0] 33))
      have s0 : (w1.alloc (Obj.cells #[Value.int IntKind.i64 0, Value.int IntKind.i64 0] 33)).cell? ⟨w.heap.size, 0, none⟩ = some (.int .i64 t) := by rw [r0.out.cell (World.block_lt_of_cell? _ _ p0)]; exact p0
      have s1 : (w1.alloc (Obj.cells #[Value.int IntKind.i64 0, Value.int IntKind.i64 0] 33)).cell? ⟨w.heap.size, 1, none⟩ = some (.int .i64 r) := by rw [r0.out.cell (World.block_lt_of_cell? _ _ p1)]; exact p1
      clear p0 p1 r0
      generalize w1.alloc (Obj.cells #[Value.int IntKind.i64 0, Value.int IntKind.i64 0] 33) = V at *
      refine (num2_any _ _).mono ?_
      rintro e w2 ⟨rfl, rfl⟩
      go_wp2_with fail
      refine (See2_no _ t r _ HR2.out).mono ?_
      rintro e w2 ⟨rfl, hb⟩
      have HR3 := hid (HR2.out.below hb)
      have HB3 := hid (below_then HB2.out hb)
      have p0 : w2.cell? ⟨w.heap.size, 0, none⟩ = some (.int .i64 t) := by rw [hb.cell (World.block_lt_of_cell? _ _ s0)]; exact s0
      have p1 : w2.cell? ⟨w.heap.size, 1, none⟩ = some (.int .i64 r) := by rw [hb.cell (World.block_lt_of_cell? _ _ s1)]; exact s1
      clear hb s0 s1
      go_wp2_with fail
      refine (num2_any _ _).mono ?_
      rintro e w3 ⟨rfl, rfl⟩
      go_wp2_with fail
      refine (Time2_no _ _ HR3.out).mono ?_
      rintro e w3 ⟨rfl, rfl⟩
      go_wp2_with fail
      go_roundw
      case rel =>
        have hp := hid (below_alloc1 w2 (Obj.cells #[Value.int IntKind.i64 0, Value.int IntKind.i64 0, Value.bool false] 42))
        exact ⟨i + 1, by omega, by go_num, .inr ⟨_, rfl, cell_of (new_at _ _) 2 rfl⟩, below_new HB3.out _, by rw [hp.out.cell (World.block_lt_of_cell? _ _ p0)]; exact p0, by rw [hp.out.cell (World.block_lt_of_cell? _ _ p1)]; exact p1⟩
      case measure => simp [intOf]; omega
    · clear hi
      go_wp2_with fail
      refine (knows2_any _).mono ?_
      rintro e w1 ⟨rfl, hb⟩
      have HB1 := hid (below_then HB.out hb)
      clear hb
      go_wp2_with fail
      go_ret
      exact ⟨rfl, HB1.out⟩
/-- The walk, from what comes in. -/
theorem StampNil_row (n : Int) (a : Array Value) (x : shStamp.T) (w : World) (_h : (Lit.int .i64 n).wf = true) (ha : shStamp.reads w a.toList x) :
    Calls Tryd.prog 4 #[.int .i64 n, .agg a] w fun e w' => e = .returned (.bool true) ∧ Below w.heap.size w w' := by
  rw [stamp_cut ha]
  exact StampNil_walk _ _ _ w
end Go.Proofs.YtdbghnfmhgjkaaaDoor
