/- Two readers side by side; stamps' bytes on both sides. -/
import Derived.Test.YtdbghnfmhgjkaaaDoorStF1
import Derived.Test.YtdbghnfmhgjkaaaDoorStF3
import Derived.Test.YtdbghnfmhgjkaaaDoorStF5
import Derived.Test.YtdbghnfmhgjkaaaDoorLnA
namespace Go.Proofs.YtdbghnfmhgjkaaaDoor
open Go.RowKit Go.Dio
set_option linter.unusedVariables false
set_option linter.unusedSimpArgs false

theorem doc_cells (A : Option Addr) (n c : Nat) (a e : Int) (i : Nat) (x : Int) : (#[Value.slice A n c, .int .i64 a, .int .i64 e])[i]? ≠ some (.int .u8 x) := by
  match i with
  | 0 => simp
  | 1 => simp
  | 2 => simp
  | i + 3 => simp
theorem rdr_cells (A : Option Addr) (n c : Nat) (e : Int) (b : Bool) (i : Nat) (x : Int) : (#[Value.slice A n c, .int .i64 e, .bool b])[i]? ≠ some (.int .u8 x) := by
  match i with
  | 0 => simp
  | 1 => simp
  | 2 => simp
  | i + 3 => simp
/-- The program's reader stays as it is while the document's one reads. -/
theorem RdrAt.side {w w' : World} {b b' rb qb : Nat} {s t : Rst} (h : RdrAt w b rb s) (d : DocAt w b' qb t) (hne : rb ≠ qb) (hg : w.grownBy w' (some qb)) : RdrAt w' b rb s := by
  obtain ⟨h1, A, n, c, xs, at_, h2, -⟩ := d
  exact h.other h2 (doc_cells _ _ _ _ _) (fun e => hne e.symm) fun k hk hlt => hg.block k hlt (fun e => hk (by cases e; rfl))
/-- .. and the other way. -/
theorem DocAt.side {w w' : World} {b b' rb qb : Nat} {s t : Rst} (h : DocAt w b qb s) (d : RdrAt w b' rb t) (hne : rb ≠ qb) (hg : w.grownBy w' (some rb)) : DocAt w' b qb s := by
  obtain ⟨h1, A, n, c, h2, -⟩ := d
  exact h.other h2 (rdr_cells _ _ _ _ _) hne fun k hk hlt => hg.block k hlt (fun e => hk (by cases e; rfl))
theorem st_lit (w : World) (base : Nat) (hb : base ≤ w.heap.size) : (w.alloc (.cells #[] 33)).ownsRow base 33 2 (.slice (some ⟨w.heap.size, 0, none⟩) 0 0) 0 [] := by
  have h := World.ownsRow_lit (base := base) (e := 33) (size := 2) w #[] 0 hb (by simp [maxLen]) (by simp)
  simpa using h
end Go.Proofs.YtdbghnfmhgjkaaaDoor
