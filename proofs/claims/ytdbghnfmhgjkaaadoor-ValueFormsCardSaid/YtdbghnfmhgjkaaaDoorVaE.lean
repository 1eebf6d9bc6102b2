/- Layer 3: Times, Over, Add. -/
import Derived.Test.YtdbghnfmhgjkaaaDoorVaD
namespace Go.Proofs.YtdbghnfmhgjkaaaDoor
open Go.RowKit Go.Dio
set_option linter.unusedVariables false
set_option linter.unusedSimpArgs false

def vtimes (k n : Int) (s : ByteArray) (k' n' : Int) (s' : ByteArray) : (Int × Int) × Int :=
  if vboth k n s k' n' s' = true then (if 1099511627776 < vmag k (vabs n * vabs n') then ((0, 0), 30) else ((k, vsgn n n' (vmag k (vabs n * vabs n'))), 0)) else ((0, 0), 1)
def vover (k n : Int) (s : ByteArray) (k' n' : Int) (s' : ByteArray) : (Int × Int) × Int :=
  if vboth k n s k' n' s' = true then (if vabs n' = 0 then ((0, 0), 31) else if 1099511627776 < vquo k (vabs n) (vabs n') then ((0, 0), 30) else ((k, vsgn n n' (vquo k (vabs n) (vabs n'))), 0)) else ((0, 0), 1)
def vadd (k n : Int) (s : ByteArray) (k' n' : Int) (s' : ByteArray) : (Int × Int) × Int :=
  if vboth k n s k' n' s' = true then (if -1099511627776 ≤ n + n' ∧ n + n' ≤ 1099511627776 then ((k, n + n'), 0) else ((0, 0), 30)) else ((0, 0), 1)
/-- An answer. -/
@[reducible] def vans (r : (Int × Int) × Int) : Value := .tuple #[vv r.1.1 r.1.2 ⟨#[]⟩, .int .i64 r.2]

theorem reckT {k n : Int} {s : ByteArray} {k' n' : Int} {s' : ByteArray} (hb : vboth k n s k' n' s' = true) {m er : Int} (h : er = 0 ∧ m = vmag k (vabs n * vabs n') ∧ 0 ≤ m ∧ m < 18446744073709551616 ∨ er = 30 ∧ 1099511627776 < vmag k (vabs n * vabs n')) : reck k n n' m er = vtimes k n s k' n' s' := by
  unfold vtimes reck
  rw [if_pos hb]
  rcases h with ⟨rfl, rfl, _⟩ | ⟨rfl, h⟩
  · rw [if_pos rfl]
  · rw [if_neg (by decide), if_pos h]
theorem reckO {k n : Int} {s : ByteArray} {k' n' : Int} {s' : ByteArray} (hb : vboth k n s k' n' s' = true) {m er : Int} (h : er = 0 ∧ vabs n' ≠ 0 ∧ m = vquo k (vabs n) (vabs n') ∧ 0 ≤ m ∧ m < 18446744073709551616 ∨ er = 31 ∧ vabs n' = 0) : reck k n n' m er = vover k n s k' n' s' := by
  unfold vover reck
  rw [if_pos hb]
  rcases h with ⟨rfl, h0, rfl, _⟩ | ⟨rfl, h⟩
  · rw [if_pos rfl, if_neg h0]
  · rw [if_neg (by decide), if_pos h]

theorem reckonT_any (k n : Int) (s : ByteArray) (k' n' : Int) (s' : ByteArray) (p : Nat) (w : World) (hs : s.size ≤ 9223372036854775807) (hs' : s'.size ≤ 9223372036854775807) (hp : w.cell? ⟨p, 0, none⟩ = some (.int .i64 k)) :
    Calls Tryd.prog 70 #[vv k n s, vv k' n' s', .func (.func 71) #[] #[.pointer (some ⟨p, 0, none⟩)]] w fun e w' => e = .returned (vans (vtimes k n s k' n' s')) ∧ Below w.heap.size w w' := by
  rcases hb : vboth k n s k' n' s' with _ | _
  · refine (reckonT_no k n s k' n' s' p w hs hs' hb).mono ?_
    rintro e w' ⟨rfl, h⟩
    exact ⟨by rw [vtimes, hb]; rfl, h⟩
  · refine (reckonT_ok k n s k' n' s' p w hs hs' hp hb).mono ?_
    rintro e w' ⟨⟨m, er, rfl, h1⟩, h⟩
    exact ⟨by rw [reckT hb h1], h⟩
theorem reckonO_any (k n : Int) (s : ByteArray) (k' n' : Int) (s' : ByteArray) (p : Nat) (w : World) (hs : s.size ≤ 9223372036854775807) (hs' : s'.size ≤ 9223372036854775807) (hp : w.cell? ⟨p, 0, none⟩ = some (.int .i64 k)) :
    Calls Tryd.prog 70 #[vv k n s, vv k' n' s', .func (.func 80) #[] #[.pointer (some ⟨p, 0, none⟩)]] w fun e w' => e = .returned (vans (vover k n s k' n' s')) ∧ Below w.heap.size w w' := by
  rcases hb : vboth k n s k' n' s' with _ | _
  · refine (reckonO_no k n s k' n' s' p w hs hs' hb).mono ?_
    rintro e w' ⟨rfl, h⟩
    exact ⟨by rw [vover, hb]; rfl, h⟩
  · refine (reckonO_ok k n s k' n' s' p w hs hs' hp hb).mono ?_
    rintro e w' ⟨⟨m, er, rfl, h1⟩, h⟩
    exact ⟨by rw [reckO hb h1], h⟩

set_option maxRecDepth 100000 in
set_option maxHeartbeats 1000000 in
theorem Times_any (k n : Int) (s : ByteArray) (k' n' : Int) (s' : ByteArray) (w : World) (hs : s.size ≤ 9223372036854775807) (hs' : s'.size ≤ 9223372036854775807) :
    Calls Tryd.prog 25 #[vv k n s, vv k' n' s'] w fun e w' => e = .returned (vans (vtimes k n s k' n' s')) ∧ Below w.heap.size w w' := by
  have hmf : ∀ (fn : Fn) (first cap : Array Value) (w : World), (Instr.makeFunc fn first cap).run Tryd.prog w = .ok (.func fn first cap) w := fun _ _ _ _ => rfl
  obtain ⟨V, hV⟩ : ∃ V, V = ((w.alloc (vo k n s)).alloc (vo k' n' s')).alloc (vo 0 0 ⟨#[]⟩) := ⟨_, rfl⟩
  have VA := hid (show VAt V w.heap.size k n s by rw [hV]; exact ((VAt.new w k n s _ rfl).below (below_alloc1 _ _)).below (below_alloc1 _ _))
  have VR := hid (show VAt V (w.heap.size + 1 + 1) 0 0 ⟨#[]⟩ by rw [hV]; exact VAt.new _ 0 0 _ _ (by simp))
  have HV := hid (show Below w.heap.size w V by rw [hV]; exact below_new (below_new (below_alloc1 w _) _) _)
  have HVE := hid hV; clear hV
  go_enter Tryd.func25, Tryd.ntmps25
  go_wp2_with fail
  rw [← HVE.out]
  refine (reckonT_any k n s k' n' s' w.heap.size V hs hs' VA.out.c0).mono ?_
  rintro e w1 ⟨rfl, hb⟩
  have H1 := hid (below_then HV.out hb)
  have VR1 := hid (VR.out.below hb)
  clear hb
  have f0 := VR1.out.fz 0; have f1 := VR1.out.fz 1; have f2 := VR1.out.fz 2
  have r0 := VR1.out.c0; have r1 := VR1.out.c1; have r2 := VR1.out.c2
  have hl := VR1.out.lt
  rcases hr : vtimes k n s k' n' s' with ⟨⟨x1, x2⟩, x3⟩
  have HR := hid hr
  clear hr
  dsimp only at *
  go_wp2_with fail
  (try simp only [Exit.inBlock, Exit.then]); refine bodyPost_ret (v := .tuple #[vv x1 x2 ⟨#[]⟩, .int .i64 x3]) (by simp [results, show Tryd.f25.results = #[.cell 4 49, .tmp 5] from rfl, go_sem, *]) rfl ?_
  refine ⟨by rw [HR.out], ?_⟩
  repeat' first | exact H1.out | refine below_put ?_ _ _ _ (by omega)

set_option maxRecDepth 100000 in
set_option maxHeartbeats 1000000 in
theorem Over_any (k n : Int) (s : ByteArray) (k' n' : Int) (s' : ByteArray) (w : World) (hs : s.size ≤ 9223372036854775807) (hs' : s'.size ≤ 9223372036854775807) :
    Calls Tryd.prog 31 #[vv k n s, vv k' n' s'] w fun e w' => e = .returned (vans (vover k n s k' n' s')) ∧ Below w.heap.size w w' := by
  have hmf : ∀ (fn : Fn) (first cap : Array Value) (w : World), (Instr.makeFunc fn first cap).run Tryd.prog w = .ok (.func fn first cap) w := fun _ _ _ _ => rfl
  obtain ⟨V, hV⟩ : ∃ V, V = ((w.alloc (vo k n s)).alloc (vo k' n' s')).alloc (vo 0 0 ⟨#[]⟩) := ⟨_, rfl⟩
  have VA := hid (show VAt V w.heap.size k n s by rw [hV]; exact ((VAt.new w k n s _ rfl).below (below_alloc1 _ _)).below (below_alloc1 _ _))
  have VR := hid (show VAt V (w.heap.size + 1 + 1) 0 0 ⟨#[]⟩ by rw [hV]; exact VAt.new _ 0 0 _ _ (by simp))
  have HV := hid (show Below w.heap.size w V by rw [hV]; exact below_new (below_new (below_alloc1 w _) _) _)
  have HVE := hid hV; clear hV
  go_enter Tryd.func31, Tryd.ntmps31
  go_wp2_with fail
  rw [← HVE.out]
  refine (reckonO_any k n s k' n' s' w.heap.size V hs hs' VA.out.c0).mono ?_
  rintro e w1 ⟨rfl, hb⟩
  have H1 := hid (below_then HV.out hb)
  have VR1 := hid (VR.out.below hb)
  clear hb
  have f0 := VR1.out.fz 0; have f1 := VR1.out.fz 1; have f2 := VR1.out.fz 2
  have r0 := VR1.out.c0; have r1 := VR1.out.c1; have r2 := VR1.out.c2
  have hl := VR1.out.lt
  rcases hr : vover k n s k' n' s' with ⟨⟨x1, x2⟩, x3⟩
  have HR := hid hr
  clear hr
  dsimp only at *
  go_wp2_with fail
  (try simp only [Exit.inBlock, Exit.then]); refine bodyPost_ret (v := .tuple #[vv x1 x2 ⟨#[]⟩, .int .i64 x3]) (by simp [results, show Tryd.f31.results = #[.cell 4 49, .tmp 5] from rfl, go_sem, *]) rfl ?_
  refine ⟨by rw [HR.out], ?_⟩
  repeat' first | exact H1.out | refine below_put ?_ _ _ _ (by omega)

set_option maxRecDepth 100000 in
set_option maxHeartbeats 1000000 in
/-- A number without its sign. -/
theorem abs3_any (n : Int) (w : World) (hn : -1099511627776 ≤ n ∧ n ≤ 1099511627776) : Calls Tryd.prog 76 #[.int .i64 n] w fun e w' => e = .returned (.int .i64 (vabs n)) ∧ w = w' := by
  by_cases h : n < 0
  · have hh := hid (vabs_neg h)
    go_enter Tryd.func76, Tryd.ntmps76
    go_wp2_with fail
    go_ret
    rw [hh.out]
    exact ⟨rfl, rfl⟩
  · have hh := hid (vabs_pos h)
    go_enter Tryd.func76, Tryd.ntmps76
    go_wp2_with fail
    go_ret
    rw [hh.out]
    exact ⟨rfl, rfl⟩
theorem signed3_any (m n n' : Int) (w : World) (hm : 0 ≤ m ∧ m ≤ 9223372036854775807) : Calls Tryd.prog 78 #[.int .i64 m, .int .i64 n, .int .i64 n'] w fun e w' => e = .returned (.int .i64 (vsgn n n' m)) ∧ w = w' := by
  by_cases h : (n < 0 ∧ ¬ n' < 0) ∨ (¬ n < 0 ∧ n' < 0)
  · have hh := hid (show vsgn n n' m = -m from if_pos h)
    rcases h with ⟨h1, h2⟩ | ⟨h1, h2⟩
    all_goals
      go_enter Tryd.func78, Tryd.ntmps78
      go_wp2_with fail
      all_goals try (exfalso; rename_i h; revert h; by_cases q0 : n < 0 <;> by_cases q1 : n' < 0 <;> simp [q0, q1] <;> omega)
      go_ret
      rw [hh.out]
      exact ⟨rfl, rfl⟩
  · have hh := hid (show vsgn n n' m = m from if_neg h)
    by_cases h1 : n < 0
    all_goals
      by_cases h2 : n' < 0
      all_goals
        first
        | (exfalso; omega)
        | (clear h
           go_enter Tryd.func78, Tryd.ntmps78
           go_wp2_with fail
           all_goals try (exfalso; rename_i h; revert h; by_cases q0 : n < 0 <;> by_cases q1 : n' < 0 <;> simp [q0, q1] <;> omega)
           go_ret
           rw [hh.out]
           exact ⟨rfl, rfl⟩)
theorem prod_split (x y : Int) (hx : 0 ≤ x ∧ x ≤ 1099511627776) (hy : 0 ≤ y ∧ y ≤ 1099511627776) : x * y = x * (y / 1048576) * 1048576 + x * (y % 1048576) ∧ 0 ≤ x * (y / 1048576) ∧ x * (y / 1048576) ≤ 1152921504606846976 ∧ 0 ≤ x * (y % 1048576) ∧ x * (y % 1048576) ≤ 1152921504606846976 := by
  have e : y = y / 1048576 * 1048576 + y % 1048576 := by omega
  refine ⟨?_, Int.mul_nonneg hx.1 (by omega), ?_, Int.mul_nonneg hx.1 (by omega), ?_⟩
  · conv => lhs; rw [e]
    rw [Int.mul_add, Int.mul_assoc]
  · have := Int.mul_le_mul (a := x) (b := y / 1048576) (c := 1099511627776) (d := 1048576) hx.2 (by omega) (by omega) (by omega)
    omega
  · have := Int.mul_le_mul (a := x) (b := y % 1048576) (c := 1099511627776) (d := 1048576) hx.2 (by omega) (by omega) (by omega)
    omega
/-- The document's product. -/
theorem product3_any (k x y by_ : Int) (w : World) (hk : k = 1 ∧ by_ = 1 ∨ k = 2 ∧ by_ = 65536) (hx : 0 ≤ x ∧ x ≤ 1099511627776) (hy : 0 ≤ y ∧ y ≤ 1099511627776) :
    Calls Tryd.prog 75 #[.int .i64 x, .int .i64 y, .int .i64 by_] w fun e w' => e = .returned (.int .i64 (min (vmag k (x * y)) 2199023255552)) ∧ w = w' := by
  obtain ⟨e0, e1, e2, e3, e4⟩ := prod_split x y hx hy
  rw [e0]
  have hD : y.tdiv 1048576 = y / 1048576 := Int.tdiv_eq_ediv_of_nonneg (by omega)
  have hR : y.tmod 1048576 = y % 1048576 := Int.tmod_eq_emod_of_nonneg (by omega)
  rcases hk with ⟨rfl, rfl⟩ | ⟨rfl, rfl⟩
  · rw [vmag1]
    go_enter Tryd.func75, Tryd.ntmps75
    go_wp2_with fail
    all_goals
      go_ret
      refine ⟨congrArg (fun z => Ending.returned (Value.int IntKind.i64 z)) (?_ : _ = _), rfl⟩
      omega
  · rw [vmag2]
    go_enter Tryd.func75, Tryd.ntmps75
    go_wp2_with fail
    all_goals
      go_ret
      refine ⟨congrArg (fun z => Ending.returned (Value.int IntKind.i64 z)) (?_ : _ = _), rfl⟩
      omega

/-- A number that may be. -/
def vanswer (k n : Int) : (Int × Int) × Int := if vright k n ⟨#[]⟩ = true then ((k, n), 0) else ((0, 0), 30)
theorem vright_one {k n : Int} (hk : k = 1 ∨ k = 2) : vright k n ⟨#[]⟩ = decide (-1099511627776 ≤ n ∧ n ≤ 1099511627776) := by
  have e : (⟨#[]⟩ : ByteArray).toList.isEmpty = true := (emp_iff _).2 rfl
  rcases hk with rfl | rfl <;> simp [vright, e]
theorem vanswer_one {k n : Int} (hk : k = 1 ∨ k = 2) : vanswer k n = if -1099511627776 ≤ n ∧ n ≤ 1099511627776 then ((k, n), 0) else ((0, 0), 30) := by
  unfold vanswer
  rw [vright_one hk]
  simp only [decide_eq_true_eq]
set_option maxRecDepth 100000 in
set_option maxHeartbeats 1000000 in
theorem answer3_any (k n : Int) (w : World) : Calls Tryd.prog 77 #[.int .i64 k, .int .i64 n] w fun e w' => e = .returned (vans (vanswer k n)) ∧ Below w.heap.size w w' := by
  have VR := hid ((VAt.new w 0 0 ⟨#[]⟩ _ rfl).below (below_alloc1 _ (vo k n ⟨#[]⟩)))
  have VX := hid (VAt.new (w.alloc (vo 0 0 ⟨#[]⟩)) k n ⟨#[]⟩ (w.heap.size + 1) (by simp))
  have HV := hid (below_new (below_alloc1 w (vo 0 0 ⟨#[]⟩)) (vo k n ⟨#[]⟩))
  rcases hr : vright k n ⟨#[]⟩ with _ | _
  all_goals
    have HR := hid hr
    go_enter Tryd.func77, Tryd.ntmps77
    go_wp2_with fail
    refine (rVRight_any k n ⟨#[]⟩ _ (by decide)).mono ?_
    rw [hr]
    rintro e w1 ⟨rfl, hb⟩
    have H1 := hid (below_then HV.out hb)
    have VR1 := hid (VR.out.below hb)
    have VX1 := hid (VX.out.below hb)
    clear hb hr
    have f0 := VR1.out.fz 0; have f1 := VR1.out.fz 1; have f2 := VR1.out.fz 2
    have r0 := VR1.out.c0; have r1 := VR1.out.c1; have r2 := VR1.out.c2
    have x0 := VX1.out.c0; have x1 := VX1.out.c1; have x2 := VX1.out.c2
    have hl := VR1.out.lt
    go_wp2_with fail
  · (try simp only [Exit.inBlock, Exit.then]); refine bodyPost_ret (v := .tuple #[vv 0 0 ⟨#[]⟩, .int .i64 30]) (by simp [results, show Tryd.f77.results = #[.cell 4 49, .tmp 5] from rfl, go_sem, *]) rfl ?_
    refine ⟨by rw [vanswer, HR.out]; rfl, ?_⟩
    repeat' first | exact H1.out | refine below_put ?_ _ _ _ (by omega)
  · (try simp only [Exit.inBlock, Exit.then]); refine bodyPost_ret (v := .tuple #[vv k n ⟨#[]⟩, .int .i64 0]) (by simp [results, show Tryd.f77.results = #[.cell 4 49, .tmp 5] from rfl, go_sem, *]) rfl ?_
    refine ⟨by rw [vanswer, HR.out]; rfl, ?_⟩
    repeat' first | exact H1.out | refine below_put ?_ _ _ _ (by omega)
end Go.Proofs.YtdbghnfmhgjkaaaDoor
