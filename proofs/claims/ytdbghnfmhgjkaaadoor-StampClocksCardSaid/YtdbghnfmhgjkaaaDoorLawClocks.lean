/- StampClocks: the walk. -/
import Derived.Test.YtdbghnfmhgjkaaaDoorStE
namespace Go.Proofs.YtdbghnfmhgjkaaaDoor
open Go.RowKit Go.Dio
set_option linter.unusedVariables false
set_option linter.unusedSimpArgs false

theorem ClkAt.re {w : World} {B B' p : Nat} {r t : Int} (h : ClkAt w B p r t) (hB : B' ≤ B) : ClkAt w B' p r t := ⟨Nat.le_trans hB h.lo, h.own, h.bd⟩
theorem RclkAt.re {w : World} {B B' p : Nat} {r t : Int} (h : RclkAt w B p r t) (hB : B' ≤ B) : RclkAt w B' p r t := ⟨Nat.le_trans hB h.lo, h.own, h.bd⟩

/-- Two clocks and the document's two. -/
structure Four (w wr : World) (p q p2 q2 : Nat) (r t r2 t2 : Int) : Prop where
  c : ClkAt wr w.heap.size p r t
  d : RclkAt wr w.heap.size q r t
  c2 : ClkAt wr w.heap.size p2 r2 t2
  d2 : RclkAt wr w.heap.size q2 r2 t2
  b : Below w.heap.size w wr

set_option maxRecDepth 100000 in
set_option maxHeartbeats 1000000 in
theorem StampClocks_ok (rep time : Int) (A : Option Addr) (n c : Nat) (f : Nat → Int × Int × Int × Int) (A' : Option Addr) (n' c' : Nat) (f' : Nat → Int × Int × Int × Int) (w : World) (hx : IsActs w A n c f) (hy : IsActs w A' n' c' f')
    (hs : sright time rep = true) :
    Calls Tryd.prog 3 #[.int .i64 rep, .int .i64 time, .slice A n c, .slice A' n' c'] w fun e w' => e = .returned (.bool true) ∧ Below w.heap.size w w' := by
  have HX := hid hx
  have HY := hid hy
  have hcap := hx.cap
  have hmax := hx.max
  have hcap' := hy.cap
  have hmax' := hy.max
  clear hx hy
  go_enter Tryd.func3, Tryd.ntmps3
  go_wp2_with fail
  refine (New2_ok rep time _ hs).mono ?_
  rintro e w1 ⟨p, rfl, hc, hb⟩
  have HB := hid hb
  have HC := hid hc
  clear hb hc
  go_wp2_with fail
  refine (New2_ok 1 0 _ (by decide)).mono ?_
  rintro e w2 ⟨p2, rfl, hc, hb⟩
  have HB2 := hid (below_then HB.out hb)
  have HC1 := hid (HC.out.below hb)
  have HC2 := hid (hc.re HB.out.size)
  have o1 : p < p2 := Nat.lt_of_lt_of_le HC.out.lt hc.lo
  clear hb hc HB HC
  go_wp2_with fail
  refine (rNew2_ok rep time _ hs).mono ?_
  rintro e w3 ⟨q, rfl, hc, hb⟩
  have HB3 := hid (below_then HB2.out hb)
  have HD1 := hid (hc.re HB2.out.size)
  have o2 : p2 < q := Nat.lt_of_lt_of_le HC2.out.lt hc.lo
  have HC1 := hid (HC1.out.below hb)
  have HC2 := hid (HC2.out.below hb)
  clear hb hc HB2
  go_wp2_with fail
  refine (rNew2_ok 1 0 _ (by decide)).mono ?_
  rintro e w4 ⟨q2, rfl, hc, hb⟩
  have HF := hid (Four.mk (HC1.out.below hb) (HD1.out.below hb) (HC2.out.below hb) (hc.re HB3.out.size) (below_then HB3.out hb))
  have o3 : q < q2 := Nat.lt_of_lt_of_le HD1.out.lt hc.lo
  clear hb hc HB3 HC1 HC2 HD1
  go_wp2_with fail
  refine (num2_any _ _).mono ?_
  rintro e w5 ⟨rfl, rfl⟩
  go_wp2_with fail
  refine (num2_any _ _).mono ?_
  rintro e w5 ⟨rfl, rfl⟩
  go_wp2_with fail
  refine (knows2_any _).mono ?_
  rintro e w5 ⟨rfl, hb⟩
  have HF := hid (Four.mk (HF.out.c.below hb) (HF.out.d.below hb) (HF.out.c2.below hb) (HF.out.d2.below hb) (below_then HF.out.b hb))
  clear hb
  go_wp2_with fail
  go_loopw [15] (fun v15 wr => ∃ (i : Nat) (t t2 : Int), (i ≤ n ∨ i ≤ n') ∧ v15 = .int .i64 i ∧ Four w wr p q p2 q2 rep t 1 t2) (fun v15 _ => max n n' - (intOf v15).toNat)
  case atStart => exact ⟨0, _, _, by omega, rfl, HF.out⟩
  case round =>
    obtain ⟨i, t, t2, hi, rfl, hf⟩ := hrel
    have HF := hid hf
    clear hf
    by_cases hlt : i < n
    · obtain ⟨b, o, rfl, k0, k1, k2, k3, hq1, hq2⟩ := HX.out.at_ i hlt
      rw [← HF.out.b.cell (World.block_lt_of_cell? _ _ k0)] at k0
      rw [← HF.out.b.cell (World.block_lt_of_cell? _ _ k1)] at k1
      rw [← HF.out.b.cell (World.block_lt_of_cell? _ _ k2)] at k2
      rw [← HF.out.b.cell (World.block_lt_of_cell? _ _ k3)] at k3
      have HI := hid HX.out
      generalize f i = x at *
      obtain ⟨x0, x1, x2, x3⟩ := x
      dsimp only at *
      go_wp2_with fail
      refine (step_any w.heap.size p q rep t x0 x1 x2 x3 _ HF.out.c HF.out.d (by omega) hq2).mono ?_
      rintro e w5 ⟨rfl, t', hc, hd, hk⟩
      have HF5 := hid (Four.mk hc hd (hk.clk HF.out.c2 (by simp; omega)) (hk.rclk HF.out.d2 (by simp; omega)) (HF.out.b.trans (hk.toBelow (by have := HF.out.c.lo; have := HF.out.d.lo; simp; omega) HF.out.b.size)))
      clear hc hd hk k0 k1 k2 k3
      by_cases hlt' : i < n'
      · obtain ⟨b', o', rfl, k0, k1, k2, k3, hr1, hr2⟩ := HY.out.at_ i hlt'
        rw [← HF5.out.b.cell (World.block_lt_of_cell? _ _ k0)] at k0
        rw [← HF5.out.b.cell (World.block_lt_of_cell? _ _ k1)] at k1
        rw [← HF5.out.b.cell (World.block_lt_of_cell? _ _ k2)] at k2
        rw [← HF5.out.b.cell (World.block_lt_of_cell? _ _ k3)] at k3
        have HJ := hid HY.out
        generalize f' i = y at *
        obtain ⟨y0, y1, y2, y3⟩ := y
        dsimp only at *
        go_wp2_with fail
        refine (step_any w.heap.size p2 q2 1 t2 y0 y1 y2 y3 _ HF5.out.c2 HF5.out.d2 (by omega) hr2).mono ?_
        rintro e w6 ⟨rfl, t2', hc, hd, hk⟩
        have HF6 := hid (Four.mk (hk.clk HF5.out.c (by simp; omega)) (hk.rclk HF5.out.d (by simp; omega)) hc hd (HF5.out.b.trans (hk.toBelow (by have := HF5.out.c2.lo; have := HF5.out.d2.lo; simp; omega) HF5.out.b.size)))
        clear hc hd hk k0 k1 k2 k3
        go_wp2_with fail
        refine ⟨⟨i + 1, t', t2', by omega, by go_num, HF6.out⟩, ?_⟩
        simp [intOf]; omega
      · go_wp2_with fail
        refine ⟨⟨i + 1, t', t2, by omega, by go_num, HF5.out⟩, ?_⟩
        simp [intOf]; omega
    · by_cases hlt' : i < n'
      · obtain ⟨b', o', rfl, k0, k1, k2, k3, hr1, hr2⟩ := HY.out.at_ i hlt'
        rw [← HF.out.b.cell (World.block_lt_of_cell? _ _ k0)] at k0
        rw [← HF.out.b.cell (World.block_lt_of_cell? _ _ k1)] at k1
        rw [← HF.out.b.cell (World.block_lt_of_cell? _ _ k2)] at k2
        rw [← HF.out.b.cell (World.block_lt_of_cell? _ _ k3)] at k3
        have HJ := hid HY.out
        generalize f' i = y at *
        obtain ⟨y0, y1, y2, y3⟩ := y
        dsimp only at *
        go_wp2_with fail
        refine (step_any w.heap.size p2 q2 1 t2 y0 y1 y2 y3 _ HF.out.c2 HF.out.d2 (by omega) hr2).mono ?_
        rintro e w6 ⟨rfl, t2', hc, hd, hk⟩
        have HF6 := hid (Four.mk (hk.clk HF.out.c (by simp; omega)) (hk.rclk HF.out.d (by simp; omega)) hc hd (HF.out.b.trans (hk.toBelow (by have := HF.out.c2.lo; have := HF.out.d2.lo; simp; omega) HF.out.b.size)))
        clear hc hd hk k0 k1 k2 k3
        go_wp2_with fail
        refine ⟨⟨i + 1, t, t2', by omega, by go_num, HF6.out⟩, ?_⟩
        simp [intOf]; omega
      · go_wp2_with fail
        go_ret
        exact ⟨rfl, HF.out.b⟩

/-- Two clocks alone. -/
structure Two (w wr : World) (p2 q2 : Nat) (r2 t2 : Int) : Prop where
  c2 : ClkAt wr w.heap.size p2 r2 t2
  d2 : RclkAt wr w.heap.size q2 r2 t2
  b : Below w.heap.size w wr

set_option maxRecDepth 100000 in
set_option maxHeartbeats 1000000 in
theorem StampClocks_no (rep time : Int) (A : Option Addr) (n c : Nat) (A' : Option Addr) (n' c' : Nat) (f' : Nat → Int × Int × Int × Int) (w : World) (hx : n ≤ c ∧ c ≤ 9223372036854775807) (hy : IsActs w A' n' c' f')
    (hs : sright time rep = false) :
    Calls Tryd.prog 3 #[.int .i64 rep, .int .i64 time, .slice A n c, .slice A' n' c'] w fun e w' => e = .returned (.bool true) ∧ Below w.heap.size w w' := by
  have HY := hid hy
  have hcap := hx.1
  have hmax := hx.2
  have hcap' := hy.cap
  have hmax' := hy.max
  clear hx hy
  go_enter Tryd.func3, Tryd.ntmps3
  go_wp2_with fail
  refine (New2_no rep time _ hs).mono ?_
  rintro e w1 ⟨rfl, hb⟩
  have HB := hid hb
  clear hb
  go_wp2_with fail
  refine (New2_ok 1 0 _ (by decide)).mono ?_
  rintro e w2 ⟨p2, rfl, hc, hb⟩
  have HB2 := hid (below_then HB.out hb)
  have HC2 := hid (hc.re HB.out.size)
  clear hb hc HB
  go_wp2_with fail
  refine (rNew2_no rep time _ hs).mono ?_
  rintro e w3 ⟨rfl, hb⟩
  have HB3 := hid (below_then HB2.out hb)
  have HC2 := hid (HC2.out.below hb)
  clear hb HB2
  go_wp2_with fail
  refine (rNew2_ok 1 0 _ (by decide)).mono ?_
  rintro e w4 ⟨q2, rfl, hc, hb⟩
  have o2 : p2 < q2 := Nat.lt_of_lt_of_le HC2.out.lt hc.lo
  have HF := hid (Two.mk (HC2.out.below hb) (hc.re HB3.out.size) (below_then HB3.out hb))
  clear hb hc HB3 HC2
  go_wp2_with fail
  refine (num2_any _ _).mono ?_
  rintro e w5 ⟨rfl, rfl⟩
  go_wp2_with fail
  refine (num2_any _ _).mono ?_
  rintro e w5 ⟨rfl, rfl⟩
  go_wp2_with fail
  refine (num2_any _ _).mono ?_
  rintro e w5 ⟨rfl, rfl⟩
  go_wp2_with fail
  refine (knows2_any _).mono ?_
  rintro e w5 ⟨rfl, hb⟩
  have HF := hid (Two.mk (HF.out.c2.below hb) (HF.out.d2.below hb) (below_then HF.out.b hb))
  clear hb
  go_wp2_with fail
  go_loopw [15] (fun v15 wr => ∃ (i : Nat) (t2 : Int), (i ≤ n ∨ i ≤ n') ∧ v15 = .int .i64 i ∧ Two w wr p2 q2 1 t2) (fun v15 _ => max n n' - (intOf v15).toNat)
  case atStart => exact ⟨0, _, by omega, rfl, HF.out⟩
  case round =>
    obtain ⟨i, t2, hi, rfl, hf⟩ := hrel
    have HF := hid hf
    clear hf
    by_cases hlt' : i < n'
    · obtain ⟨b', o', rfl, k0, k1, k2, k3, hr1, hr2⟩ := HY.out.at_ i hlt'
      rw [← HF.out.b.cell (World.block_lt_of_cell? _ _ k0)] at k0
      rw [← HF.out.b.cell (World.block_lt_of_cell? _ _ k1)] at k1
      rw [← HF.out.b.cell (World.block_lt_of_cell? _ _ k2)] at k2
      rw [← HF.out.b.cell (World.block_lt_of_cell? _ _ k3)] at k3
      have HJ := hid HY.out
      generalize f' i = y at *
      obtain ⟨y0, y1, y2, y3⟩ := y
      dsimp only at *
      by_cases hlt : i < n
      all_goals
        go_wp2_with fail
        refine (step_any w.heap.size p2 q2 1 t2 y0 y1 y2 y3 _ HF.out.c2 HF.out.d2 (by omega) hr2).mono ?_
        rintro e w6 ⟨rfl, t2', hc, hd, hk⟩
        have HF6 := hid (Two.mk hc hd (HF.out.b.trans (hk.toBelow (by have := HF.out.c2.lo; have := HF.out.d2.lo; simp; omega) HF.out.b.size)))
        clear hc hd hk k0 k1 k2 k3
        go_wp2_with fail
        refine ⟨⟨i + 1, t2', by omega, by go_num, HF6.out⟩, ?_⟩
        simp [intOf]; omega
    · by_cases hlt : i < n
      · go_wp2_with fail
        refine ⟨⟨i + 1, t2, by omega, by go_num, HF.out⟩, ?_⟩
        simp [intOf]; omega
      · go_wp2_with fail
        go_ret
        exact ⟨rfl, HF.out.b⟩
/-- The walk, from what comes in. -/
theorem StampClocks_row (rep time : Int) (A : Option Addr) (n c : Nat) (l : (Sh.slice shAct).T) (A' : Option Addr) (n' c' : Nat) (l' : (Sh.slice shAct).T) (w : World) (_h : (Lit.int .i64 rep).wf = true) (_h' : (Lit.int .i64 time).wf = true)
    (ha : (Sh.slice shAct).reads w [.slice A n c] l) (hb : (Sh.slice shAct).reads w [.slice A' n' c'] l') :
    Calls Tryd.prog 3 #[.int .i64 rep, .int .i64 time, .slice A n c, .slice A' n' c'] w fun e w' => e = .returned (.bool true) ∧ Below w.heap.size w w' := by
  obtain ⟨f, hf⟩ := acts_of ha
  obtain ⟨f', hf'⟩ := acts_of hb
  rcases hs : sright time rep with _ | _
  · exact StampClocks_no rep time A n c A' n' c' f' w ⟨hf.cap, hf.max⟩ hf' hs
  · exact StampClocks_ok rep time A n c f A' n' c' f' w hf hf' hs
end Go.Proofs.YtdbghnfmhgjkaaaDoor
