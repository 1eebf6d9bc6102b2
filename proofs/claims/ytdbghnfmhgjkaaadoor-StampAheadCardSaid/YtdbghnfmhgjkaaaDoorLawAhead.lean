/- StampAhead: the walk. -/
import Derived.Test.YtdbghnfmhgjkaaaDoorShS
namespace Go.Proofs.YtdbghnfmhgjkaaaDoor
open Go.RowKit Go.Dio
set_option linter.unusedVariables false
set_option linter.unusedSimpArgs false

theorem rep16 (k : Int) : -16 < k.tmod 16 ∧ k.tmod 16 < 16 ∧ ∃ r : Int, (k.tmod 16 + 16).tmod 16 = r ∧ 0 ≤ r ∧ r < 16 := by
  have h1 : -16 < k.tmod 16 := by
    rcases Int.le_total 0 k with h | h
    · have := Int.tmod_nonneg 16 h; omega
    · have h2 := Int.tmod_lt_of_pos (-k) (b := 16) (by omega)
      rw [Int.neg_tmod] at h2; omega
  have h2 : k.tmod 16 < 16 := Int.tmod_lt_of_pos k (by omega)
  exact ⟨h1, h2, _, rfl, Int.tmod_nonneg 16 (by omega), Int.tmod_lt_of_pos _ (by omega)⟩

set_option maxRecDepth 100000 in
set_option maxHeartbeats 1000000 in
theorem StampAhead_walk (k : Int) (A : Option Addr) (n c : Nat) (f : Nat → Int × Int × Int × Int) (w : World) (hx : IsActs w A n c f) :
    Calls Tryd.prog 5 #[.int .i64 k, .slice A n c] w fun e w' => e = .returned (.bool true) ∧ Below w.heap.size w w' := by
  have HX := hid hx
  have hcap := hx.cap
  have hmax := hx.max
  clear hx
  obtain ⟨hk1, hk2, r, hr, hr0, hr1⟩ := rep16 k
  go_enter Tryd.func5, Tryd.ntmps5
  go_wp2_with fail
  try rw [hr]
  refine (New2_ok r 0 _ (by simp [sright]; omega)).mono ?_
  rintro e w1 ⟨p, rfl, hc, hb⟩
  have HB1 := hid hb
  have HC1 := hid hc
  clear hb hc
  go_wp2_with fail
  refine (num2_any 0 _).mono ?_
  rintro e w2 ⟨rfl, rfl⟩
  go_wp2_with fail
  refine (knows2_any _).mono ?_
  rintro e w2 ⟨rfl, hb⟩
  have HB2 := hid (below_then HB1.out hb)
  have HC2 := hid (HC1.out.below hb)
  clear hb
  go_wp2_with fail
  go_loopw [7, 8] (fun v7 v8 wr => ∃ (i : Nat) (top t : Int), i ≤ n ∧ v8 = .int .i64 i ∧ v7 = .int .i64 top ∧ 0 ≤ top ∧ top ≤ t ∧ ClkAt wr w.heap.size p r t ∧ Below w.heap.size w wr) (fun _ v8 _ => n - (intOf v8).toNat)
  case atStart => exact ⟨0, 0, 0, by omega, rfl, rfl, by omega, by omega, HC2.out, HB2.out⟩
  case round =>
    obtain ⟨i, top, t, hi, rfl, rfl, ht0, ht1, hc, hb⟩ := hrel
    have HB := hid hb
    have HC := hid hc
    have hbd := hc.bd
    clear hb hc
    by_cases hlt : i < n
    · obtain ⟨b, o, rfl, q0, q1, q2, q3, hq1, hq2⟩ := HX.out.at_ i hlt
      have HQ := hid (And.intro q0 (And.intro q1 (And.intro q2 q3)))
      rw [← HB.out.cell (World.block_lt_of_cell? _ _ q0)] at q0
      rw [← HB.out.cell (World.block_lt_of_cell? _ _ q1)] at q1
      rw [← HB.out.cell (World.block_lt_of_cell? _ _ q2)] at q2
      rw [← HB.out.cell (World.block_lt_of_cell? _ _ q3)] at q3
      have HI := hid HX.out
      generalize f i = x at *
      obtain ⟨x0, x1, x2, x3⟩ := x
      dsimp only at *
      by_cases hk : x0 = 1
      · subst hk
        go_wp2_with fail
        refine (See2_any w.heap.size p r t x2 x3 wr HC.out).mono ?_
        rintro e w3 ⟨rfl, hc, hg⟩
        have HB3 := hid (HB.out.grown hg HB.out.size (fun q hq => by cases hq; exact HC.out.lo))
        have HC3 := hid hc
        have hbd3 := hc.bd
        clear hc hg q0 q1 q2 q3
        have c0 : w3.cell? ⟨b, o + i * 4, none⟩ = some (.int .i64 1) := by rw [HB3.out.cell (World.block_lt_of_cell? _ _ HQ.out.1)]; exact HQ.out.1
        have c1 : w3.cell? ⟨b, o + i * 4 + 1, none⟩ = some (.int .i64 x1) := by rw [HB3.out.cell (World.block_lt_of_cell? _ _ HQ.out.2.1)]; exact HQ.out.2.1
        have c2 : w3.cell? ⟨b, o + i * 4 + 2, none⟩ = some (.int .i64 x2) := by rw [HB3.out.cell (World.block_lt_of_cell? _ _ HQ.out.2.2.1)]; exact HQ.out.2.2.1
        have c3 : w3.cell? ⟨b, o + i * 4 + 3, none⟩ = some (.int .i64 x3) := by rw [HB3.out.cell (World.block_lt_of_cell? _ _ HQ.out.2.2.2)]; exact HQ.out.2.2.2
        rcases hs : sright x2 x3 with _ | _
        · simp only [csee, hs] at *
          have hss := hid hs
          clear hs
          go_wp2_with fail
          refine (num2_any _ _).mono ?_
          rintro e w4 ⟨rfl, rfl⟩
          go_wp2_with fail
          refine ⟨⟨i + 1, top, t, by omega, by go_num, rfl, ht0, ht1, HC3.out, HB3.out⟩, ?_⟩
          simp [intOf]; omega
        · simp only [csee, hs] at *
          have hss := hid hs
          clear hs
          go_wp2_with fail
          refine (num2_any _ _).mono ?_
          rintro e w4 ⟨rfl, rfl⟩
          go_wp2_with fail
          refine ⟨⟨i + 1, _, max t x2, by omega, by go_num, rfl, ?_, ?_, HC3.out, HB3.out⟩, ?_⟩
          · split <;> omega
          · split <;> omega
          simp [intOf]; omega
      · have hk' : (x0 == 1) = false := by simp; omega
        go_wp2_with fail
        refine (Next2_any w.heap.size p r t x1 wr HC.out (by omega)).mono ?_
        rintro e w3 ⟨rfl, hc, hg⟩
        have HB3 := hid (HB.out.grown hg HB.out.size (fun q hq => by cases hq; exact HC.out.lo))
        have HC3 := hid hc
        have hbd3 := hc.bd
        clear hc hg q0 q1 q2 q3
        have c0 : w3.cell? ⟨b, o + i * 4, none⟩ = some (.int .i64 x0) := by rw [HB3.out.cell (World.block_lt_of_cell? _ _ HQ.out.1)]; exact HQ.out.1
        have c1 : w3.cell? ⟨b, o + i * 4 + 1, none⟩ = some (.int .i64 x1) := by rw [HB3.out.cell (World.block_lt_of_cell? _ _ HQ.out.2.1)]; exact HQ.out.2.1
        have c2 : w3.cell? ⟨b, o + i * 4 + 2, none⟩ = some (.int .i64 x2) := by rw [HB3.out.cell (World.block_lt_of_cell? _ _ HQ.out.2.2.1)]; exact HQ.out.2.2.1
        have c3 : w3.cell? ⟨b, o + i * 4 + 3, none⟩ = some (.int .i64 x3) := by rw [HB3.out.cell (World.block_lt_of_cell? _ _ HQ.out.2.2.2)]; exact HQ.out.2.2.2
        by_cases h1 : x1 < 1
        · rw [show cnext r t x1 = ((0, 0), 1, t) by rw [cnext, if_pos h1]] at *
          go_wp2_with fail
          refine (num2_any _ _).mono ?_
          rintro e w4 ⟨rfl, rfl⟩
          go_wp2_with fail
          refine ⟨⟨i + 1, top, t, by omega, by go_num, rfl, ht0, ht1, HC3.out.below (below_alloc1 _ _), below_new HB3.out _⟩, ?_⟩
          simp [intOf]; omega
        · by_cases h2 : 1099511627776 - t < x1
          · rw [show cnext r t x1 = ((0, 0), 30, t) by rw [cnext, if_neg h1, if_pos h2]] at *
            go_wp2_with fail
            refine (num2_any _ _).mono ?_
            rintro e w4 ⟨rfl, rfl⟩
            go_wp2_with fail
            refine ⟨⟨i + 1, top, t, by omega, by go_num, rfl, ht0, ht1, HC3.out.below (below_alloc1 _ _), below_new HB3.out _⟩, ?_⟩
            simp [intOf]; omega
          · rw [show cnext r t x1 = ((t + 1, r), 0, t + x1) by rw [cnext, if_neg h1, if_neg h2]] at *
            have HO := hid (below_alloc1 w3 (Obj.cells #[Value.int IntKind.i64 (t + 1), Value.int IntKind.i64 r] 33))
            have d1 : (w3.alloc (Obj.cells #[Value.int IntKind.i64 (t + 1), Value.int IntKind.i64 r] 33)).cell? ⟨b, o + i * 4 + 1, none⟩ = some (.int .i64 x1) := by rw [HO.out.cell (World.block_lt_of_cell? _ _ c1)]; exact c1
            have d4 : (w3.alloc (Obj.cells #[Value.int IntKind.i64 (t + 1), Value.int IntKind.i64 r] 33)).cell? ⟨w3.heap.size, 0, none⟩ = some (.int .i64 (t + 1)) := cell_of (new_at _ _) 0 rfl
            have d5 : (w3.alloc (Obj.cells #[Value.int IntKind.i64 (t + 1), Value.int IntKind.i64 r] 33)).cell? ⟨w3.heap.size, 1, none⟩ = some (.int .i64 r) := cell_of (new_at _ _) 1 rfl
            go_wp2_with fail
            refine (num2_any _ _).mono ?_
            rintro e w4 ⟨rfl, rfl⟩
            go_wp2_with fail
            refine wp_region_held_drew (S := fun w' => w'.cell? ⟨b, o + i * 4 + 1, none⟩ = some (.int .i64 x1) ∧ w'.cell? ⟨w3.heap.size, 0, none⟩ = some (.int .i64 (t + 1))) (by kernel_rfl) (by go_keep) (fun hHeld => ?_)
            refine takeL 0 (v := ?_) rfl (by kernel_rfl) (by kernel_rfl) (by kernel_rfl) (fun _ _ _ h => h) (by rfl) ?_ (by assumption) ?_
            case' refine_2 => (intro w hSw; (try dsimp only at hSw); go_simp; try with_reducible rfl)
            try simp only [Act.put, List.setIfInBounds_toArray, List.set_cons_zero, List.set_cons_succ]
            refine takeL 1 (v := ?_) rfl (by kernel_rfl) (by kernel_rfl) (by kernel_rfl) (fun _ _ _ h => h) (by rfl) ?_ (by assumption) ?_
            case' refine_2 => (intro w hSw; (try dsimp only at hSw); go_simp; try with_reducible rfl)
            try simp only [Act.put, List.setIfInBounds_toArray, List.set_cons_zero, List.set_cons_succ]
            refine takeL 2 (v := ?_) rfl (by kernel_rfl) (by kernel_rfl) (by kernel_rfl) (fun _ _ _ h => h) (by rfl) ?_ (by assumption) ?_
            case' refine_2 => (intro w hSw; (try dsimp only at hSw); go_simp; try with_reducible rfl)
            try simp only [Act.put, List.setIfInBounds_toArray, List.set_cons_zero, List.set_cons_succ]
            refine takeL 3 (v := ?_) rfl (by kernel_rfl) (by kernel_rfl) (by kernel_rfl) (fun _ _ _ h => h) (by rfl) ?_ (by assumption) ?_
            case' refine_2 => (intro w hSw; (try dsimp only at hSw); go_simp; try with_reducible rfl)
            try simp only [Act.put, List.setIfInBounds_toArray, List.set_cons_zero, List.set_cons_succ]
            refine takeL 4 (v := ?_) rfl (by kernel_rfl) (by kernel_rfl) (by kernel_rfl) (fun _ _ _ h => h) (by rfl) ?_ (by assumption) ?_
            case' refine_2 => (intro w hSw; (try dsimp only at hSw); go_simp; try with_reducible rfl)
            try simp only [Act.put, List.setIfInBounds_toArray, List.set_cons_zero, List.set_cons_succ]
            refine takeL 5 (v := ?_) rfl (by kernel_rfl) (by kernel_rfl) (by kernel_rfl) (fun _ _ _ h => h) (by rfl) ?_ (by assumption) ?_
            case' refine_2 => (intro w hSw; (try dsimp only at hSw); go_simp; try with_reducible rfl)
            try simp only [Act.put, List.setIfInBounds_toArray, List.set_cons_zero, List.set_cons_succ]
            refine takeL 6 (v := ?_) rfl (by kernel_rfl) (by kernel_rfl) (by kernel_rfl) (fun _ _ _ h => h) (by rfl) ?_ (by assumption) ?_
            case' refine_2 => (intro w hSw; (try dsimp only at hSw); go_simp; try with_reducible rfl)
            try simp only [Act.put, List.setIfInBounds_toArray, List.set_cons_zero, List.set_cons_succ]
            refine takeL 7 (v := ?_) rfl (by kernel_rfl) (by kernel_rfl) (by kernel_rfl) (fun _ _ _ h => h) (by rfl) ?_ (by assumption) ?_
            case' refine_2 => (intro w hSw; (try dsimp only at hSw); go_simp; try with_reducible rfl)
            try simp only [Act.put, List.setIfInBounds_toArray, List.set_cons_zero, List.set_cons_succ]
            refine takeL 8 (v := ?_) rfl (by kernel_rfl) (by kernel_rfl) (by kernel_rfl) (fun _ _ _ h => h) (by rfl) ?_ (by assumption) ?_
            case' refine_2 => (intro w hSw; (try dsimp only at hSw); go_simp; try with_reducible rfl)
            try simp only [Act.put, List.setIfInBounds_toArray, List.set_cons_zero, List.set_cons_succ]
            refine takeL 9 (v := ?_) rfl (by kernel_rfl) (by kernel_rfl) (by kernel_rfl) (fun _ _ _ h => h) (by rfl) ?_ (by assumption) ?_
            case' refine_2 => (intro w hSw; (try dsimp only at hSw); go_simp; try with_reducible rfl)
            try simp only [Act.put, List.setIfInBounds_toArray, List.set_cons_zero, List.set_cons_succ]
            refine wpAnyH_done (by kernel_rfl) ?_ _
            have hsum : t + 1 - 1 + x1 = t + x1 := by omega
            go_wp2_with fail
            refine (Time2_any w.heap.size p r (t + x1) _ ((HC3.out.below HO.out).grown (row := none) (grown_drew (World.grownBy.refl _ _)) (by simp))).mono ?_
            rintro e w5 ⟨rfl, rfl⟩
            go_wp2_with fail
            refine ⟨⟨i + 1, t + x1, t + x1, by omega, by go_num, rfl, by omega, by omega, (HC3.out.below HO.out).grown (row := none) (grown_drew (World.grownBy.refl _ _)) (by simp), (below_new HB3.out _).drew⟩, ?_⟩
            simp [intOf]; omega
    · have hin : i = n := by omega
      subst hin
      go_wp2_with fail
      go_ret
      exact ⟨rfl, HB.out⟩
/-- The walk, from what comes in. -/
theorem StampAhead_row (k : Int) (A : Option Addr) (n c : Nat) (l : (Sh.slice shAct).T) (w : World) (_h : (Lit.int .i64 k).wf = true) (ha : (Sh.slice shAct).reads w [.slice A n c] l) :
    Calls Tryd.prog 5 #[.int .i64 k, .slice A n c] w fun e w' => e = .returned (.bool true) ∧ Below w.heap.size w w' := by
  obtain ⟨f, hf⟩ := acts_of ha
  exact StampAhead_walk k A n c f w hf
end Go.Proofs.YtdbghnfmhgjkaaaDoor
