/- Layer 2: stamps and clocks: what the functions do. -/
import Derived.Test.YtdbghnfmhgjkaaaDoorProg
import Derived.Test.YtdbghnfmhgjkaaaDoorK6
import Derived.Test.YtdbghnfmhgjkaaaDoorReg
import Derived.Tactics2
import Derived.WalkKit
namespace Go.Proofs.YtdbghnfmhgjkaaaDoor
open Go.RowKit Go.Dio
set_option linter.unusedVariables false
set_option linter.unusedSimpArgs false

/-- A stamp. -/
@[reducible] def stv (t r : Int) : Value := .agg #[.int .i64 t, .int .i64 r]

/-- The order. -/
def scmp (t r t' r' : Int) : Int := if t = t' ∧ r = r' then 0 else if t < t' ∨ t = t' ∧ r < r' then -1 else 1

theorem Compare_any (t r t' r' : Int) (w : World) : Calls Tryd.prog 23 #[stv t r, stv t' r'] w fun e w' => e = .returned (.int .i64 (scmp t r t' r')) ∧ Below w.heap.size w w' := by
  go_enter Tryd.func23, Tryd.ntmps23
  go_wp2_with fail
  all_goals
    go_ret
    refine ⟨?_, below_alloc2 _ _ _⟩
    simp only [scmp]
    repeat' split
    all_goals first | rfl | (exfalso; omega)
theorem num2_any (k : Int) (w : World) : Calls Tryd.prog 17 #[.int .i64 k] w fun e w' => e = .returned (.int .i64 k) ∧ w = w' := by
  go_enter Tryd.func17, Tryd.ntmps17
  go_wp2_with fail
  go_ret
  exact ⟨rfl, rfl⟩
theorem Itoa_5 (w : World) : Calls Tryd.prog 84 #[.int .i64 5] w fun e w' => e = .returned (.string ⟨#[53]⟩) ∧ w = w' := by
  go_enter Tryd.func84, Tryd.ntmps84
  go_wp2_with (first | (go_at_call 108; go_in) | (go_at_call 119; go_in) | (go_at_call 128; go_in))
  go_ret
  exact ⟨rfl, rfl⟩
theorem Itoa_2 (w : World) : Calls Tryd.prog 84 #[.int .i64 2] w fun e w' => e = .returned (.string ⟨#[50]⟩) ∧ w = w' := by
  go_enter Tryd.func84, Tryd.ntmps84
  go_wp2_with (first | (go_at_call 108; go_in) | (go_at_call 119; go_in) | (go_at_call 128; go_in))
  go_ret
  exact ⟨rfl, rfl⟩
theorem Print_52 (w : World) : Calls Tryd.prog 35 #[stv 5 2] w fun e w' => e = .returned (.string ⟨#[53, 64, 50]⟩) ∧ Below w.heap.size w w' := by
  go_enter Tryd.func35, Tryd.ntmps35
  go_wp2_with fail
  refine wp_region_held_drew (S := fun w' => w'.cell? ⟨w.heap.size, 0, none⟩ = some (.int .i64 5) ∧ w'.cell? ⟨w.heap.size, 1, none⟩ = some (.int .i64 2)) (by kernel_rfl) (by simp) (fun hHeld => ?_)
  refine takeL 0 (v := ?_) rfl (by kernel_rfl) (by kernel_rfl) (by kernel_rfl) (fun _ _ _ h => h) (by rfl) ?_ (by assumption) ?_
  case' refine_2 => (intro w hSw; (try dsimp only at hSw); go_simp; try with_reducible rfl)
  try simp only [Act.put, List.setIfInBounds_toArray, List.set_cons_zero, List.set_cons_succ]
  refine takeL 1 (v := ?_) rfl (by kernel_rfl) (by kernel_rfl) (by kernel_rfl) (fun _ _ _ h => h) (by rfl) ?_ (by assumption) ?_
  case' refine_2 => (intro w hSw; (try dsimp only at hSw); go_simp; try with_reducible rfl)
  try simp only [Act.put, List.setIfInBounds_toArray, List.set_cons_zero, List.set_cons_succ]
  refine takeL 4 (v := ?_) rfl (by kernel_rfl) (by kernel_rfl) (by kernel_rfl) (fun _ _ _ h => h) (by rfl) ?_ (by assumption) ?_
  case' refine_2 => (intro w hSw; (try dsimp only at hSw); go_simp; try with_reducible rfl)
  try simp only [Act.put, List.setIfInBounds_toArray, List.set_cons_zero, List.set_cons_succ]
  refine takeL 5 (v := ?_) rfl (by kernel_rfl) (by kernel_rfl) (by kernel_rfl) (fun _ _ _ h => h) (by rfl) ?_ (by assumption) ?_
  case' refine_2 => (intro w hSw; (try dsimp only at hSw); go_simp; try with_reducible rfl)
  try simp only [Act.put, List.setIfInBounds_toArray, List.set_cons_zero, List.set_cons_succ]
  refine soloL 2 rfl (by kernel_rfl) (fun K hK => ?_)
  go_simp
  go_at_call 84
  refine (Itoa_5 _).mono ?_
  rintro e w1 ⟨rfl, rfl⟩
  go_wp2_with fail
  refine hK.out _ _ hHeld (fun hHeld => ?_)
  clear hK K
  refine takeL 3 (v := ?_) rfl (by kernel_rfl) (by kernel_rfl) (by kernel_rfl) (fun _ _ _ h => h) (by rfl) ?_ (by assumption) ?_
  case' refine_2 => (intro w hSw; (try dsimp only at hSw); go_simp; try with_reducible rfl)
  try simp only [Act.put, List.setIfInBounds_toArray, List.set_cons_zero, List.set_cons_succ]
  refine soloL 6 rfl (by kernel_rfl) (fun K hK => ?_)
  go_simp
  go_at_call 84
  refine (Itoa_2 _).mono ?_
  rintro e w1 ⟨rfl, rfl⟩
  go_wp2_with fail
  refine hK.out _ _ hHeld (fun hHeld => ?_)
  clear hK K
  refine takeL 7 (v := ?_) rfl (by kernel_rfl) (by kernel_rfl) (by kernel_rfl) (fun _ _ _ h => h) (by rfl) ?_ (by assumption) ?_
  case' refine_2 => (intro w hSw; (try dsimp only at hSw); go_simp; try with_reducible rfl)
  try simp only [Act.put, List.setIfInBounds_toArray, List.set_cons_zero, List.set_cons_succ]
  refine takeL 8 (v := ?_) rfl (by kernel_rfl) (by kernel_rfl) (by kernel_rfl) (fun _ _ _ h => h) (by rfl) ?_ (by assumption) ?_
  case' refine_2 => (intro w hSw; (try dsimp only at hSw); go_simp; try with_reducible rfl)
  try simp only [Act.put, List.setIfInBounds_toArray, List.set_cons_zero, List.set_cons_succ]
  refine wpAnyH_done (by kernel_rfl) ?_ _
  go_wp2_with fail
  go_ret
  exact ⟨rfl, (below_alloc1 _ _).drew⟩
/-- May it be? -/
def sright (t r : Int) : Bool := decide (0 ≤ t ∧ t ≤ 1099511627776 ∧ 0 ≤ r ∧ r < 16)

theorem Right2_any (t r : Int) (w : World) : Calls Tryd.prog 36 #[stv t r] w fun e w' => e = .returned (.bool (sright t r)) ∧ Below w.heap.size w w' := by
  rcases hs : sright t r with _ | _
  all_goals
    simp only [sright, decide_eq_true_eq, decide_eq_false_iff_not] at hs
    go_enter Tryd.func36, Tryd.ntmps36
    go_wp2_with fail
    all_goals
      go_ret
      refine ⟨?_, below_alloc1 _ _⟩
      first | rfl | (congr 2; simp; omega)
theorem rRight2_any (t r : Int) (w : World) : Calls Tryd.prog 44 #[stv t r] w fun e w' => e = .returned (.bool (sright t r)) ∧ Below w.heap.size w w' := by
  rcases hs : sright t r with _ | _
  all_goals
    simp only [sright, decide_eq_true_eq, decide_eq_false_iff_not] at hs
    go_enter Tryd.func44, Tryd.ntmps44
    go_wp2_with fail
    all_goals
      go_ret
      refine ⟨?_, below_alloc1 _ _⟩
      first | rfl | (congr 2; simp; omega)

/-- A clock stands in block p. -/
structure ClkAt (w : World) (base p : Nat) (r t : Int) : Prop where
  lo : base ≤ p
  own : w.heap[p]? = some (.cells #[.int .i64 r, .int .i64 t, .bool true] 42 (0, 0))
  bd : 0 ≤ t ∧ t ≤ 1099511627776
theorem ClkAt.lt {w : World} {base p : Nat} {r t : Int} (h : ClkAt w base p r t) : p < w.heap.size := (Array.getElem?_eq_some_iff.1 h.own).1
theorem ClkAt.below {w w' : World} {base p : Nat} {r t : Int} (h : ClkAt w base p r t) (hb : Below w.heap.size w w') : ClkAt w' base p r t := ⟨h.lo, by rw [hb.block p h.lt]; exact h.own, h.bd⟩
theorem ClkAt.grown {w w' : World} {base p : Nat} {r t : Int} {row : Option Nat} (h : ClkAt w base p r t) (hb : w.grownBy w' row) (hr : row ≠ some p) : ClkAt w' base p r t := ⟨h.lo, by rw [hb.block p h.lt (fun e => hr e.symm)]; exact h.own, h.bd⟩
theorem ClkAt.new (w : World) (base : Nat) (r t : Int) (hb : base ≤ w.heap.size) (hs : sright t r = true) : ClkAt (w.alloc (.cells #[.int .i64 r, .int .i64 t, .bool true] 42)) base w.heap.size r t := ⟨hb, by show (w.heap.push _)[w.heap.size]? = _; simp, by simp [sright] at hs; omega⟩

theorem New2_any (r t : Int) (w : World) : Calls Tryd.prog 15 #[.int .i64 r, .int .i64 t] w fun e w' =>
    if sright t r then ∃ p, e = .returned (.tuple #[.pointer (some ⟨p, 0, none⟩), .int .i64 0]) ∧ ClkAt w' w.heap.size p r t ∧ Below w.heap.size w w'
    else e = .returned (.tuple #[.pointer none, .int .i64 1]) ∧ Below w.heap.size w w' := by
  rcases hs : sright t r with _ | _
  · go_enter Tryd.func15, Tryd.ntmps15
    go_wp2_with fail
    refine (Right2_any t r _).mono ?_
    rw [hs]
    rintro e w1 ⟨rfl, hb1⟩
    go_wp2_with fail
    go_ret2
    exact ⟨rfl, hb1⟩
  · go_enter Tryd.func15, Tryd.ntmps15
    go_wp2_with fail
    refine (Right2_any t r _).mono ?_
    rw [hs]
    rintro e w1 ⟨rfl, hb1⟩
    go_wp2_with fail
    go_ret2
    exact ⟨_, rfl, ClkAt.new w1 _ r t hb1.size hs, below_new hb1 _⟩
/-- What a clock's call leaves: its own block alone may have turned. -/
def ClkOut (w : World) (base p : Nat) (v : Value) (r t : Int) (e : Ending) (w' : World) : Prop := e = .returned v ∧ ClkAt w' base p r t ∧ w.grownBy w' (some p)

theorem cnone_any (base p : Nat) (r t : Int) (w : World) (h : ClkAt w base p r t) :
    Calls Tryd.prog 69 #[.pointer (some ⟨p, 0, none⟩)] w fun e w' => e = .returned (.bool false) ∧ w = w' := by
  have c2 : w.cell? ⟨p, 2, none⟩ = some (.bool true) := by simp [World.cell?, h.own]
  clear h
  go_enter Tryd.func69, Tryd.ntmps69
  go_wp2_with fail
  go_ret
  exact ⟨rfl, rfl⟩
theorem Time2_any (base p : Nat) (r t : Int) (w : World) (h : ClkAt w base p r t) :
    Calls Tryd.prog 22 #[.pointer (some ⟨p, 0, none⟩)] w fun e w' => e = .returned (.int .i64 t) ∧ w = w' := by
  have H := hid h
  have c1 : w.cell? ⟨p, 1, none⟩ = some (.int .i64 t) := by simp [World.cell?, h.own]
  clear h
  go_enter Tryd.func22, Tryd.ntmps22
  go_wp2_with fail
  refine (cnone_any base p r t _ H.out).mono ?_
  rintro e w1 ⟨rfl, rfl⟩
  go_wp2_with fail
  go_ret
  exact ⟨rfl, rfl⟩
end Go.Proofs.YtdbghnfmhgjkaaaDoor
