/- Layer 3: reckon: with the closure of Over. -/
import Derived.Test.YtdbghnfmhgjkaaaDoorVaC
namespace Go.Proofs.YtdbghnfmhgjkaaaDoor
open Go.RowKit Go.Dio
set_option linter.unusedVariables false
set_option linter.unusedSimpArgs false


set_option maxRecDepth 100000 in
set_option maxHeartbeats 2000000 in
theorem reckonO_no (k n : Int) (s : ByteArray) (k' n' : Int) (s' : ByteArray) (p : Nat) (w : World) (hs : s.size ≤ 9223372036854775807) (hs' : s'.size ≤ 9223372036854775807) (hb : vboth k n s k' n' s' = false) :
    Calls Tryd.prog 70 #[vv k n s, vv k' n' s', .func (.func 80) #[] #[.pointer (some ⟨p, 0, none⟩)]] w fun e w' =>
      e = .returned (.tuple #[vv 0 0 ⟨#[]⟩, .int .i64 1]) ∧ Below w.heap.size w w' := by
  obtain ⟨V, hV⟩ : ∃ V, V = ((w.alloc (vo k n s)).alloc (vo k' n' s')).alloc (vo 0 0 ⟨#[]⟩) := ⟨_, rfl⟩
  have VA := hid (show VAt V w.heap.size k n s by rw [hV]; exact ((VAt.new w k n s _ rfl).below (below_alloc1 _ _)).below (below_alloc1 _ _))
  have VB := hid (show VAt V (w.heap.size + 1) k' n' s' by rw [hV]; exact (VAt.new _ k' n' s' _ (by simp)).below (below_alloc1 _ _))
  have VR := hid (show VAt V (w.heap.size + 1 + 1) 0 0 ⟨#[]⟩ by rw [hV]; exact VAt.new _ 0 0 _ _ (by simp))
  have HV := hid (show Below w.heap.size w V by rw [hV]; exact below_new (below_new (below_alloc1 w _) _) _)
  have HVE := hid hV; clear hV
  rcases ha : vright k n s with _ | _
  · go_enter Tryd.func70, Tryd.ntmps70
    go_wp2_with fail
    rw [← HVE.out]
    refine (VRight_any k n s V hs).mono ?_
    rw [ha]
    rintro e w1 ⟨rfl, hb1⟩
    have H1 := hid (below_then HV.out hb1)
    have VR1 := hid (VR.out.below hb1)
    have f0 := VR1.out.fz 0; have f1 := VR1.out.fz 1; have f2 := VR1.out.fz 2
    have r0 := VR1.out.c0; have r1 := VR1.out.c1; have r2 := VR1.out.c2
    have hl := VR1.out.lt
    clear hb1
    go_wp2_with fail
    (try simp only [Exit.inBlock, Exit.then]); refine bodyPost_ret (v := .tuple #[vv 0 0 ⟨#[]⟩, .int .i64 1]) (by simp [results, show Tryd.f70.results = #[.cell 6 49, .tmp 7] from rfl, go_sem, *]) rfl ?_
    refine ⟨rfl, ?_⟩
    repeat' first | exact H1.out | refine below_put ?_ _ _ _ (by omega)
  · rcases hc : vright k' n' s' with _ | _
    all_goals
      go_enter Tryd.func70, Tryd.ntmps70
      go_wp2_with fail
      rw [← HVE.out]
      refine (VRight_any k n s V hs).mono ?_
      rw [ha]
      rintro e w1 ⟨rfl, hb1⟩
      have H1 := hid (below_then HV.out hb1)
      have VR1 := hid (VR.out.below hb1)
      have VA1 := hid (VA.out.below hb1)
      have VB1 := hid (VB.out.below hb1)
      have b0 := VB1.out.c0; have b1 := VB1.out.c1; have b2 := VB1.out.c2
      clear hb1
      go_wp2_with fail
      refine (VRight_any k' n' s' _ hs').mono ?_
      rw [hc]
      rintro e w2 ⟨rfl, hb2⟩
      have H2 := hid (below_then H1.out hb2)
      have VR2 := hid (VR1.out.below hb2)
      have VA2 := hid (VA1.out.below hb2)
      have VB2 := hid (VB1.out.below hb2)
      clear hb2 b0 b1 b2
      have f0 := VR2.out.fz 0; have f1 := VR2.out.fz 1; have f2 := VR2.out.fz 2
      have r0 := VR2.out.c0; have r1 := VR2.out.c1; have r2 := VR2.out.c2
      have hl := VR2.out.lt
      have a0 := VA2.out.c0
      have b0 := VB2.out.c0
    · go_wp2_with fail
      (try simp only [Exit.inBlock, Exit.then]); refine bodyPost_ret (v := .tuple #[vv 0 0 ⟨#[]⟩, .int .i64 1]) (by simp [results, show Tryd.f70.results = #[.cell 6 49, .tmp 7] from rfl, go_sem, *]) rfl ?_
      refine ⟨rfl, ?_⟩
      repeat' first | exact H2.out | refine below_put ?_ _ _ _ (by omega)
    · have hk : ¬ k = k' ∨ (¬ k = 1 ∧ ¬ k = 2) := by
        simp only [vboth, ha, hc, Bool.true_and, Bool.and_eq_false_iff, decide_eq_false_iff_not] at hb
        omega
      by_cases hkk : k = k'
      · have hk1 : (k == 1) = false := by simp; omega
        have hk2 : (k == 2) = false := by simp; omega
        have hk3 : (k != 1) = true := by simp; omega
        have hk4 : (k != 2) = true := by simp; omega
        subst hkk
        go_wp2_with fail
        (try simp only [Exit.inBlock, Exit.then]); refine bodyPost_ret (v := .tuple #[vv 0 0 ⟨#[]⟩, .int .i64 1]) (by simp [results, show Tryd.f70.results = #[.cell 6 49, .tmp 7] from rfl, go_sem, *]) rfl ?_
        refine ⟨rfl, ?_⟩
        repeat' first | exact H2.out | refine below_put ?_ _ _ _ (by omega)
      · have hk1 : (k == k') = false := by simp; omega
        go_wp2_with fail
        (try simp only [Exit.inBlock, Exit.then]); refine bodyPost_ret (v := .tuple #[vv 0 0 ⟨#[]⟩, .int .i64 1]) (by simp [results, show Tryd.f70.results = #[.cell 6 49, .tmp 7] from rfl, go_sem, *]) rfl ?_
        refine ⟨rfl, ?_⟩
        repeat' first | exact H2.out | refine below_put ?_ _ _ _ (by omega)

set_option maxRecDepth 100000 in
set_option maxHeartbeats 2000000 in
theorem reckonO_ok (k n : Int) (s : ByteArray) (k' n' : Int) (s' : ByteArray) (p : Nat) (w : World) (hs : s.size ≤ 9223372036854775807) (hs' : s'.size ≤ 9223372036854775807) (hp : w.cell? ⟨p, 0, none⟩ = some (.int .i64 k)) (hb : vboth k n s k' n' s' = true) :
    Calls Tryd.prog 70 #[vv k n s, vv k' n' s', .func (.func 80) #[] #[.pointer (some ⟨p, 0, none⟩)]] w fun e w' =>
      (∃ m er, e = .returned (.tuple #[vv (reck k n n' m er).1.1 (reck k n n' m er).1.2 ⟨#[]⟩, .int .i64 (reck k n n' m er).2]) ∧ (er = 0 ∧ vabs n' ≠ 0 ∧ m = vquo k (vabs n) (vabs n') ∧ 0 ≤ m ∧ m < 18446744073709551616 ∨ er = 31 ∧ vabs n' = 0)) ∧ Below w.heap.size w w' := by
  simp only [vboth, Bool.and_eq_true, decide_eq_true_eq] at hb
  obtain ⟨ha, hc, rfl, hk⟩ := hb
  have hn := vright_num ha hk
  have hn' := vright_num hc hk
  have hx := vabs_le hn
  have hy := vabs_le hn'
  obtain ⟨V, hV⟩ : ∃ V, V = ((w.alloc (vo k n s)).alloc (vo k n' s')).alloc (vo 0 0 ⟨#[]⟩) := ⟨_, rfl⟩
  have VA := hid (show VAt V w.heap.size k n s by rw [hV]; exact ((VAt.new w k n s _ rfl).below (below_alloc1 _ _)).below (below_alloc1 _ _))
  have VB := hid (show VAt V (w.heap.size + 1) k n' s' by rw [hV]; exact (VAt.new _ k n' s' _ (by simp)).below (below_alloc1 _ _))
  have VR := hid (show VAt V (w.heap.size + 1 + 1) 0 0 ⟨#[]⟩ by rw [hV]; exact VAt.new _ 0 0 _ _ (by simp))
  have HV := hid (show Below w.heap.size w V by rw [hV]; exact below_new (below_new (below_alloc1 w _) _) _)
  have HVE := hid hV; clear hV
  go_enter Tryd.func70, Tryd.ntmps70
  go_wp2_with fail
  rw [← HVE.out]
  refine (VRight_any k n s V hs).mono ?_
  rw [ha]
  rintro e w1 ⟨rfl, hb1⟩
  have H1 := hid (below_then HV.out hb1)
  have VR1 := hid (VR.out.below hb1)
  have VA1 := hid (VA.out.below hb1)
  have VB1 := hid (VB.out.below hb1)
  have b0 := VB1.out.c0; have b1 := VB1.out.c1; have b2 := VB1.out.c2
  clear hb1
  go_wp2_with fail
  refine (VRight_any k n' s' _ hs').mono ?_
  rw [hc]
  rintro e w2 ⟨rfl, hb2⟩
  have H2 := hid (below_then H1.out hb2)
  have VR2 := hid (VR1.out.below hb2)
  have VA2 := hid (VA1.out.below hb2)
  have VB2 := hid (VB1.out.below hb2)
  have HP2 : w2.cell? ⟨p, 0, none⟩ = some (.int .i64 k) := by rw [H2.out.cell (World.block_lt_of_cell? _ _ hp)]; exact hp
  clear hb2 b0 b1 b2
  have a0 := VA2.out.c0
  have b0 := VB2.out.c0
  have a1 := VA2.out.c1
  have b1 := VB2.out.c1
  have hmx : (if n < -n then -n else n) = vabs n := by unfold vabs; split <;> split <;> omega
  have hmy : (if n' < -n' then -n' else n') = vabs n' := by unfold vabs; split <;> split <;> omega
  have HA := hid ha; have HC := hid hc
  clear ha hc
  rcases hk with rfl | rfl
  · go_wp2_with fail
    refine (overC _ (vabs n) (vabs n') p _ (by decide) hx.1 hx.2 hy.1 hy.2 HP2).mono ?_
    rintro e w3 ⟨⟨m, er, rfl, hm⟩, hb3⟩
    have H3 := hid (below_then H2.out hb3)
    have VR3 := hid (VR2.out.below hb3)
    have VA3 := hid (VA2.out.below hb3)
    have VB3 := hid (VB2.out.below hb3)
    clear hb3 a0 b0 a1 b1
    have f0 := VR3.out.fz 0; have f1 := VR3.out.fz 1; have f2 := VR3.out.fz 2
    have r0 := VR3.out.c0; have r1 := VR3.out.c1; have r2 := VR3.out.c2
    have a0 := VA3.out.c0; have a1 := VA3.out.c1; have b1 := VB3.out.c1
    have hl := VR3.out.lt
    have hla := VA3.out.lt
    have hlb := VB3.out.lt
    have HM := hid hm
    rcases hm with ⟨rfl, -, -, m0, m1⟩ | ⟨rfl, -⟩
    · by_cases ov : 1099511627776 < m
      · go_wp2_with fail
        (try simp only [Exit.inBlock, Exit.then]); refine bodyPost_ret (v := .tuple #[vv (0) (0) ⟨#[]⟩, .int .i64 (30)]) (by simp [results, show Tryd.f70.results = #[.cell 6 49, .tmp 7] from rfl, go_sem, *]) rfl ?_
        have hR : ∀ k, reck k n n' m 0 = ((0, 0), 30) := fun k => by rw [reck, if_pos rfl, if_pos ov]
        refine ⟨⟨m, 0, by rw [hR], by simpa using HM.out⟩, ?_⟩
        repeat' first | exact H3.out | refine below_put ?_ _ _ _ (by omega) | refine below_new ?_ _
      · by_cases n0 : n < 0
        all_goals
          by_cases n1 : n' < 0
        · go_wp2_with fail
          all_goals try (exfalso; rename_i h; revert h; by_cases q0 : n < 0 <;> by_cases q1 : n' < 0 <;> simp [q0, q1] <;> omega)
          (try simp only [Exit.inBlock, Exit.then]); refine bodyPost_ret (v := .tuple #[vv (1) (m) ⟨#[]⟩, .int .i64 (0)]) (by simp [results, show Tryd.f70.results = #[.cell 6 49, .tmp 7] from rfl, go_sem, *]) rfl ?_
          have hR : ∀ k, reck k n n' m 0 = ((k, m), 0) := fun k => by rw [reck, if_pos rfl, if_neg (by omega), vsgn, if_neg (by omega)]
          refine ⟨⟨m, 0, by rw [hR], by simpa using HM.out⟩, ?_⟩
          repeat' first | exact H3.out | refine below_put ?_ _ _ _ (by omega) | refine below_new ?_ _
        · go_wp2_with fail
          all_goals try (exfalso; rename_i h; revert h; by_cases q0 : n < 0 <;> by_cases q1 : n' < 0 <;> simp [q0, q1] <;> omega)
          (try simp only [Exit.inBlock, Exit.then]); refine bodyPost_ret (v := .tuple #[vv (1) (-m) ⟨#[]⟩, .int .i64 (0)]) (by simp [results, show Tryd.f70.results = #[.cell 6 49, .tmp 7] from rfl, go_sem, *]) rfl ?_
          have hR : ∀ k, reck k n n' m 0 = ((k, -m), 0) := fun k => by rw [reck, if_pos rfl, if_neg (by omega), vsgn, if_pos (by omega)]
          refine ⟨⟨m, 0, by rw [hR], by simpa using HM.out⟩, ?_⟩
          repeat' first | exact H3.out | refine below_put ?_ _ _ _ (by omega) | refine below_new ?_ _
        · go_wp2_with fail
          all_goals try (exfalso; rename_i h; revert h; by_cases q0 : n < 0 <;> by_cases q1 : n' < 0 <;> simp [q0, q1] <;> omega)
          (try simp only [Exit.inBlock, Exit.then]); refine bodyPost_ret (v := .tuple #[vv (1) (-m) ⟨#[]⟩, .int .i64 (0)]) (by simp [results, show Tryd.f70.results = #[.cell 6 49, .tmp 7] from rfl, go_sem, *]) rfl ?_
          have hR : ∀ k, reck k n n' m 0 = ((k, -m), 0) := fun k => by rw [reck, if_pos rfl, if_neg (by omega), vsgn, if_pos (by omega)]
          refine ⟨⟨m, 0, by rw [hR], by simpa using HM.out⟩, ?_⟩
          repeat' first | exact H3.out | refine below_put ?_ _ _ _ (by omega) | refine below_new ?_ _
        · go_wp2_with fail
          all_goals try (exfalso; rename_i h; revert h; by_cases q0 : n < 0 <;> by_cases q1 : n' < 0 <;> simp [q0, q1] <;> omega)
          (try simp only [Exit.inBlock, Exit.then]); refine bodyPost_ret (v := .tuple #[vv (1) (m) ⟨#[]⟩, .int .i64 (0)]) (by simp [results, show Tryd.f70.results = #[.cell 6 49, .tmp 7] from rfl, go_sem, *]) rfl ?_
          have hR : ∀ k, reck k n n' m 0 = ((k, m), 0) := fun k => by rw [reck, if_pos rfl, if_neg (by omega), vsgn, if_neg (by omega)]
          refine ⟨⟨m, 0, by rw [hR], by simpa using HM.out⟩, ?_⟩
          repeat' first | exact H3.out | refine below_put ?_ _ _ _ (by omega) | refine below_new ?_ _
    · go_wp2_with fail
      (try simp only [Exit.inBlock, Exit.then]); refine bodyPost_ret (v := .tuple #[vv (0) (0) ⟨#[]⟩, .int .i64 (31)]) (by simp [results, show Tryd.f70.results = #[.cell 6 49, .tmp 7] from rfl, go_sem, *]) rfl ?_
      have hR : ∀ k, reck k n n' m 31 = ((0, 0), 31) := fun k => by rw [reck, if_neg (by decide)]
      refine ⟨⟨m, 31, by rw [hR], by simpa using HM.out⟩, ?_⟩
      repeat' first | exact H3.out | refine below_put ?_ _ _ _ (by omega) | refine below_new ?_ _

  · go_wp2_with fail
    refine (overC _ (vabs n) (vabs n') p _ (by decide) hx.1 hx.2 hy.1 hy.2 HP2).mono ?_
    rintro e w3 ⟨⟨m, er, rfl, hm⟩, hb3⟩
    have H3 := hid (below_then H2.out hb3)
    have VR3 := hid (VR2.out.below hb3)
    have VA3 := hid (VA2.out.below hb3)
    have VB3 := hid (VB2.out.below hb3)
    clear hb3 a0 b0 a1 b1
    have f0 := VR3.out.fz 0; have f1 := VR3.out.fz 1; have f2 := VR3.out.fz 2
    have r0 := VR3.out.c0; have r1 := VR3.out.c1; have r2 := VR3.out.c2
    have a0 := VA3.out.c0; have a1 := VA3.out.c1; have b1 := VB3.out.c1
    have hl := VR3.out.lt
    have hla := VA3.out.lt
    have hlb := VB3.out.lt
    have HM := hid hm
    rcases hm with ⟨rfl, -, -, m0, m1⟩ | ⟨rfl, -⟩
    · by_cases ov : 1099511627776 < m
      · go_wp2_with fail
        (try simp only [Exit.inBlock, Exit.then]); refine bodyPost_ret (v := .tuple #[vv (0) (0) ⟨#[]⟩, .int .i64 (30)]) (by simp [results, show Tryd.f70.results = #[.cell 6 49, .tmp 7] from rfl, go_sem, *]) rfl ?_
        have hR : ∀ k, reck k n n' m 0 = ((0, 0), 30) := fun k => by rw [reck, if_pos rfl, if_pos ov]
        refine ⟨⟨m, 0, by rw [hR], by simpa using HM.out⟩, ?_⟩
        repeat' first | exact H3.out | refine below_put ?_ _ _ _ (by omega) | refine below_new ?_ _
      · by_cases n0 : n < 0
        all_goals
          by_cases n1 : n' < 0
        · go_wp2_with fail
          all_goals try (exfalso; rename_i h; revert h; by_cases q0 : n < 0 <;> by_cases q1 : n' < 0 <;> simp [q0, q1] <;> omega)
          (try simp only [Exit.inBlock, Exit.then]); refine bodyPost_ret (v := .tuple #[vv (2) (m) ⟨#[]⟩, .int .i64 (0)]) (by simp [results, show Tryd.f70.results = #[.cell 6 49, .tmp 7] from rfl, go_sem, *]) rfl ?_
          have hR : ∀ k, reck k n n' m 0 = ((k, m), 0) := fun k => by rw [reck, if_pos rfl, if_neg (by omega), vsgn, if_neg (by omega)]
          refine ⟨⟨m, 0, by rw [hR], by simpa using HM.out⟩, ?_⟩
          repeat' first | exact H3.out | refine below_put ?_ _ _ _ (by omega) | refine below_new ?_ _
        · go_wp2_with fail
          all_goals try (exfalso; rename_i h; revert h; by_cases q0 : n < 0 <;> by_cases q1 : n' < 0 <;> simp [q0, q1] <;> omega)
          (try simp only [Exit.inBlock, Exit.then]); refine bodyPost_ret (v := .tuple #[vv (2) (-m) ⟨#[]⟩, .int .i64 (0)]) (by simp [results, show Tryd.f70.results = #[.cell 6 49, .tmp 7] from rfl, go_sem, *]) rfl ?_
          have hR : ∀ k, reck k n n' m 0 = ((k, -m), 0) := fun k => by rw [reck, if_pos rfl, if_neg (by omega), vsgn, if_pos (by omega)]
          refine ⟨⟨m, 0, by rw [hR], by simpa using HM.out⟩, ?_⟩
          repeat' first | exact H3.out | refine below_put ?_ _ _ _ (by omega) | refine below_new ?_ _
        · go_wp2_with fail
          all_goals try (exfalso; rename_i h; revert h; by_cases q0 : n < 0 <;> by_cases q1 : n' < 0 <;> simp [q0, q1] <;> omega)
          (try simp only [Exit.inBlock, Exit.then]); refine bodyPost_ret (v := .tuple #[vv (2) (-m) ⟨#[]⟩, .int .i64 (0)]) (by simp [results, show Tryd.f70.results = #[.cell 6 49, .tmp 7] from rfl, go_sem, *]) rfl ?_
          have hR : ∀ k, reck k n n' m 0 = ((k, -m), 0) := fun k => by rw [reck, if_pos rfl, if_neg (by omega), vsgn, if_pos (by omega)]
          refine ⟨⟨m, 0, by rw [hR], by simpa using HM.out⟩, ?_⟩
          repeat' first | exact H3.out | refine below_put ?_ _ _ _ (by omega) | refine below_new ?_ _
        · go_wp2_with fail
          all_goals try (exfalso; rename_i h; revert h; by_cases q0 : n < 0 <;> by_cases q1 : n' < 0 <;> simp [q0, q1] <;> omega)
          (try simp only [Exit.inBlock, Exit.then]); refine bodyPost_ret (v := .tuple #[vv (2) (m) ⟨#[]⟩, .int .i64 (0)]) (by simp [results, show Tryd.f70.results = #[.cell 6 49, .tmp 7] from rfl, go_sem, *]) rfl ?_
          have hR : ∀ k, reck k n n' m 0 = ((k, m), 0) := fun k => by rw [reck, if_pos rfl, if_neg (by omega), vsgn, if_neg (by omega)]
          refine ⟨⟨m, 0, by rw [hR], by simpa using HM.out⟩, ?_⟩
          repeat' first | exact H3.out | refine below_put ?_ _ _ _ (by omega) | refine below_new ?_ _
    · go_wp2_with fail
      (try simp only [Exit.inBlock, Exit.then]); refine bodyPost_ret (v := .tuple #[vv (0) (0) ⟨#[]⟩, .int .i64 (31)]) (by simp [results, show Tryd.f70.results = #[.cell 6 49, .tmp 7] from rfl, go_sem, *]) rfl ?_
      have hR : ∀ k, reck k n n' m 31 = ((0, 0), 31) := fun k => by rw [reck, if_neg (by decide)]
      refine ⟨⟨m, 31, by rw [hR], by simpa using HM.out⟩, ?_⟩
      repeat' first | exact H3.out | refine below_put ?_ _ _ _ (by omega) | refine below_new ?_ _

end Go.Proofs.YtdbghnfmhgjkaaaDoor
