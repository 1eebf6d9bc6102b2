/- ValueLaws: the walk. -/
import Derived.Test.YtdbghnfmhgjkaaaDoorVaK
namespace Go.Proofs.YtdbghnfmhgjkaaaDoor
open Go.RowKit Go.Dio
set_option linter.unusedVariables false
set_option linter.unusedSimpArgs false

theorem vboth_comm (k n : Int) (s : ByteArray) (k' n' : Int) (s' : ByteArray) : vboth k n s k' n' s' = vboth k' n' s' k n s := by
  unfold vboth
  by_cases h : k = k'
  · subst h
    cases vright k n s <;> cases vright k n' s' <;> rfl
  · have h' : ¬ k' = k := fun e => h e.symm
    simp [h, h']
theorem vadd_comm (k n : Int) (s : ByteArray) (k' n' : Int) (s' : ByteArray) : vadd k n s k' n' s' = vadd k' n' s' k n s := by
  unfold vadd
  rw [vboth_comm]
  rcases hb : vboth k' n' s' k n s with _ | _
  · rfl
  · obtain ⟨_, e, _⟩ := vboth_kind hb
    subst e
    simp only [if_true, Int.add_comm]
theorem vsgn_comm (n n' m : Int) : vsgn n n' m = vsgn n' n m := by
  unfold vsgn
  split <;> split <;> omega
theorem vtimes_comm (k n : Int) (s : ByteArray) (k' n' : Int) (s' : ByteArray) : vtimes k n s k' n' s' = vtimes k' n' s' k n s := by
  unfold vtimes
  rw [vboth_comm]
  rcases hb : vboth k' n' s' k n s with _ | _
  · rfl
  · obtain ⟨_, e, _⟩ := vboth_kind hb
    subst e
    simp only [if_true, Int.mul_comm (vabs n), vsgn_comm n]
/-- What is added can be taken away. -/
theorem vboth_strs {k n : Int} {s : ByteArray} {k' n' : Int} {s' : ByteArray} (h : vboth k n s k' n' s' = true) : s = ⟨#[]⟩ ∧ s' = ⟨#[]⟩ := by
  simp only [vboth, Bool.and_eq_true, decide_eq_true_eq] at h
  obtain ⟨ha, hc, rfl, hk⟩ := h
  unfold vright at ha hc
  rcases hk with rfl | rfl <;> simp at ha hc
  · exact ⟨(emp_iff s).1 (by simpa using ha.2), (emp_iff s').1 (by simpa using hc.2)⟩
  · exact ⟨(emp_iff s).1 (by simpa using ha.2), (emp_iff s').1 (by simpa using hc.2)⟩
theorem vboth_mk {k n n' : Int} (hk : k = 1 ∨ k = 2) (h : -1099511627776 ≤ n ∧ n ≤ 1099511627776) (h' : -1099511627776 ≤ n' ∧ n' ≤ 1099511627776) : vboth k n ⟨#[]⟩ k n' ⟨#[]⟩ = true := by
  unfold vboth
  rw [vright_one hk, vright_one hk]
  simp [h, h', hk]
theorem vadd_back {k n : Int} {s : ByteArray} {k' n' : Int} {s' : ByteArray} {x1 x2 : Int} (h : vadd k n s k' n' s' = ((x1, x2), 0)) : vadd x1 x2 ⟨#[]⟩ k' (-n') ⟨#[]⟩ = ((k, n), 0) ∧ s = ⟨#[]⟩ ∧ -1099511627776 ≤ n' ∧ n' ≤ 1099511627776 := by
  unfold vadd at h
  rcases hb : vboth k n s k' n' s' with _ | _
  · rw [hb] at h; simp at h
  · rw [hb, if_pos rfl] at h
    obtain ⟨hk, rfl, hn, hn'⟩ := vboth_kind hb
    split at h
    · rename_i hs
      simp only [Prod.mk.injEq, and_true] at h
      obtain ⟨rfl, rfl⟩ := h
      refine ⟨?_, (vboth_strs hb).1, hn'⟩
      rw [vadd, if_pos (vboth_mk hk hs (by omega)), if_pos (by omega)]
      rw [show n + n' + -n' = n by omega]
    · simp at h
theorem vabs_sgn (n n' m : Int) (h : 0 ≤ m) : vabs (vsgn n n' m) = m := by unfold vabs vsgn; split <;> split <;> omega
/-- A quotient times the divisor. -/
theorem vover_times {n : Int} {s : ByteArray} {k' n' : Int} {s' : ByteArray} {x1 x2 : Int} (h : vover 1 n s k' n' s' = ((x1, x2), 0)) :
    ∃ m, vtimes x1 x2 ⟨#[]⟩ k' n' s' = ((1, m), 0) ∧ (0 < m → m ≤ n ∧ 0 ≤ n) ∧ (m < 0 → n ≤ m ∧ n ≤ 0) := by
  unfold vover at h
  rcases hb : vboth 1 n s k' n' s' with _ | _
  · rw [hb] at h; simp at h
  · rw [hb, if_pos rfl] at h
    obtain ⟨_, rfl, hn, hn'⟩ := vboth_kind hb
    obtain ⟨rfl, rfl⟩ := vboth_strs hb
    split at h
    · simp at h
    · rename_i h0
      split at h
      · simp at h
      · simp only [Prod.mk.injEq, and_true] at h
        obtain ⟨rfl, rfl⟩ := h
        rw [vquo1] at *
        have hy : 0 < vabs n' := by have := (vabs_le hn').1; omega
        have hx := (vabs_le hn).1
        have hq : 0 ≤ vabs n / vabs n' := Int.ediv_nonneg hx (by omega)
        have hm : vabs n / vabs n' * vabs n' ≤ vabs n := Int.ediv_mul_le _ (by omega)
        have hp : 0 ≤ vabs n / vabs n' * vabs n' := Int.mul_nonneg hq (by omega)
        have hq2 : vabs n / vabs n' ≤ vabs n := Int.ediv_le_self _ hx
        have hle := (vabs_le hn).2
        refine ⟨vsgn (vsgn n n' (vabs n / vabs n')) n' (vabs n / vabs n' * vabs n'), ?_, ?_, ?_⟩
        · rw [vtimes, if_pos (vboth_mk (.inl rfl) (vsgn_le hq (by omega)) hn'), vabs_sgn _ _ _ hq, vmag1, if_neg (by omega)]
        all_goals
          have hz : vabs n / vabs n' = 0 → vabs n / vabs n' * vabs n' = 0 := fun e => by rw [e, Int.zero_mul]
          generalize vabs n / vabs n' * vabs n' = P at *
          generalize vabs n / vabs n' = Q at *
          intro h
          by_cases h1 : n < 0
          all_goals
            by_cases h2 : n' < 0
            all_goals
              simp only [vabs, h1, h2, if_true, if_false] at *
              simp only [vsgn, h1, h2, not_true_eq_false, not_false_eq_true, and_true, and_false, or_true, or_false, false_or, true_or, false_and, true_and, if_true, if_false] at *
              by_cases hq0 : Q = 0
              · have := hz hq0
                subst this
                split at h <;> omega
              · split at h <;> split <;> omega

set_option maxRecDepth 100000 in
set_option maxHeartbeats 4000000 in
theorem ValueLaws_walk (k n : Int) (s : ByteArray) (k' n' : Int) (s' : ByteArray) (w : World) (hs : s.size ≤ 9223372036854775807) (hs' : s'.size ≤ 9223372036854775807) :
    Calls Tryd.prog 10 #[vv k n s, vv k' n' s'] w fun e w' => e = .returned (.bool true) ∧ Below w.heap.size w w' := by
  have VA := hid ((VAt.new w k n s _ rfl).below (below_alloc1 _ (vo k' n' s')))
  have VB := hid (VAt.new (w.alloc (vo k n s)) k' n' s' (w.heap.size + 1) (by simp))
  have HV := hid (below_new (below_alloc1 w (vo k n s)) (vo k' n' s'))
  rcases hx : vadd k n s k' n' s' with ⟨⟨x1, x2⟩, x3⟩
  rcases hp : vtimes k n s k' n' s' with ⟨⟨p1, p2⟩, p3⟩
  rcases ho : vover k n s k' n' s' with ⟨⟨o1, o2⟩, o3⟩
  have HX := hid hx; have HP := hid hp; have HO := hid ho
  go_enter Tryd.func10, Tryd.ntmps10
  go_wp2_with fail
  refine (Add_any k n s k' n' s' _ hs hs').mono ?_
  rw [HX.out]
  rintro e w1 ⟨rfl, hb⟩
  have H1 := hid (below_new (below_then HV.out hb) (vo x1 x2 ⟨#[]⟩))
  have VA1 := hid ((VA.out.below hb).below (below_alloc1 _ (vo x1 x2 ⟨#[]⟩)))
  have VB1 := hid ((VB.out.below hb).below (below_alloc1 _ (vo x1 x2 ⟨#[]⟩)))
  clear hb
  have a0 := VA1.out.c0; have a1 := VA1.out.c1; have a2 := VA1.out.c2
  have b0 := VB1.out.c0; have b1 := VB1.out.c1; have b2 := VB1.out.c2
  dsimp only
  have VX1 := hid (VAt.new w1 x1 x2 ⟨#[]⟩ _ rfl)
  clear hx hp ho
  go_wp2_with fail
  refine (Add_any k' n' s' k n s _ hs' hs).mono ?_
  rw [vadd_comm, HX.out]
  rintro e w2 ⟨rfl, hb⟩
  have H2 := hid (below_new (below_then H1.out hb) (vo x1 x2 ⟨#[]⟩))
  have VA2 := hid ((VA1.out.below hb).below (below_alloc1 _ (vo x1 x2 ⟨#[]⟩)))
  have VB2 := hid ((VB1.out.below hb).below (below_alloc1 _ (vo x1 x2 ⟨#[]⟩)))
  have VX2 := hid ((VX1.out.below hb).below (below_alloc1 _ (vo x1 x2 ⟨#[]⟩)))
  clear hb
  clear a0 a1 a2 b0 b1 b2
  have a0 := VA2.out.c0; have a1 := VA2.out.c1; have a2 := VA2.out.c2
  have b0 := VB2.out.c0; have b1 := VB2.out.c1; have b2 := VB2.out.c2
  dsimp only
  have VY2 := hid (VAt.new w2 x1 x2 ⟨#[]⟩ _ rfl)
  go_wp2_with fail
  refine (Times_any k n s k' n' s' _ hs hs').mono ?_
  rw [HP.out]
  rintro e w3 ⟨rfl, hb⟩
  have H3 := hid (below_new (below_then H2.out hb) (vo p1 p2 ⟨#[]⟩))
  have VA3 := hid ((VA2.out.below hb).below (below_alloc1 _ (vo p1 p2 ⟨#[]⟩)))
  have VB3 := hid ((VB2.out.below hb).below (below_alloc1 _ (vo p1 p2 ⟨#[]⟩)))
  have VX3 := hid ((VX2.out.below hb).below (below_alloc1 _ (vo p1 p2 ⟨#[]⟩)))
  have VY3 := hid ((VY2.out.below hb).below (below_alloc1 _ (vo p1 p2 ⟨#[]⟩)))
  clear hb
  clear a0 a1 a2 b0 b1 b2
  have a0 := VA3.out.c0; have a1 := VA3.out.c1; have a2 := VA3.out.c2
  have b0 := VB3.out.c0; have b1 := VB3.out.c1; have b2 := VB3.out.c2
  dsimp only
  have VP3 := hid (VAt.new w3 p1 p2 ⟨#[]⟩ _ rfl)
  go_wp2_with fail
  refine (Times_any k' n' s' k n s _ hs' hs).mono ?_
  rw [vtimes_comm, HP.out]
  rintro e w4 ⟨rfl, hb⟩
  have H4 := hid (below_new (below_then H3.out hb) (vo p1 p2 ⟨#[]⟩))
  have VA4 := hid ((VA3.out.below hb).below (below_alloc1 _ (vo p1 p2 ⟨#[]⟩)))
  have VB4 := hid ((VB3.out.below hb).below (below_alloc1 _ (vo p1 p2 ⟨#[]⟩)))
  have VX4 := hid ((VX3.out.below hb).below (below_alloc1 _ (vo p1 p2 ⟨#[]⟩)))
  have VY4 := hid ((VY3.out.below hb).below (below_alloc1 _ (vo p1 p2 ⟨#[]⟩)))
  have VP4 := hid ((VP3.out.below hb).below (below_alloc1 _ (vo p1 p2 ⟨#[]⟩)))
  clear hb
  clear a0 a1 a2 b0 b1 b2
  have a0 := VA4.out.c0; have a1 := VA4.out.c1; have a2 := VA4.out.c2
  have b0 := VB4.out.c0; have b1 := VB4.out.c1; have b2 := VB4.out.c2
  dsimp only
  have VQ4 := hid (VAt.new w4 p1 p2 ⟨#[]⟩ _ rfl)
  clear a0 a1 a2 b0 b1 b2
  have a0 := VX4.out.c0; have a1 := VX4.out.c1; have a2 := VX4.out.c2
  have b0 := VY4.out.c0; have b1 := VY4.out.c1; have b2 := VY4.out.c2
  have d0 := VP4.out.c0; have d1 := VP4.out.c1; have d2 := VP4.out.c2
  have e0 := VQ4.out.c0; have e1 := VQ4.out.c1; have e2 := VQ4.out.c2
  go_wp2_with fail
  refine (num3_any x3 _).mono ?_
  rintro e wN ⟨rfl, rfl⟩
  go_wp2_with fail
  refine (num3_any x3 _).mono ?_
  rintro e wN ⟨rfl, rfl⟩
  go_wp2_with fail
  refine (num3_any p3 _).mono ?_
  rintro e wN ⟨rfl, rfl⟩
  go_wp2_with fail
  refine (num3_any p3 _).mono ?_
  rintro e wN ⟨rfl, rfl⟩
  go_wp2_with fail
  refine (knows3_any _).mono ?_
  rintro e w5 ⟨rfl, hb⟩
  have H5 := hid (below_then H4.out hb)
  have VA5 := hid (VA4.out.below hb)
  have VB5 := hid (VB4.out.below hb)
  have VX5 := hid (VX4.out.below hb)
  clear hb a0 a1 a2 b0 b1 b2 d0 d1 d2 e0 e1 e2
  have a0 := VA5.out.c0; have a1 := VA5.out.c1; have a2 := VA5.out.c2
  have b0 := VB5.out.c0; have b1 := VB5.out.c1; have b2 := VB5.out.c2
  have c0 := VX5.out.c0; have c1 := VX5.out.c1; have c2 := VX5.out.c2
  go_wp2_with fail
  refine (num3_any x3 _).mono ?_
  rintro e wN ⟨rfl, rfl⟩
  by_cases hx3 : x3 = 0
  · subst hx3
    obtain ⟨hbk, hs0, hn'⟩ := vadd_back HX.out
    subst hs0
    have HBK := hid hbk
    clear hbk
    go_wp2_with fail
    refine (Add_any x1 x2 ⟨#[]⟩ k' (-n') ⟨#[]⟩ _ (by decide) (by decide)).mono ?_
    rw [HBK.out]
    rintro e w6 ⟨rfl, hb⟩
    have H6 := hid (below_new (below_then H5.out hb) (vo k n ⟨#[]⟩))
    have VA6 := hid ((VA5.out.below hb).below (below_alloc1 _ (vo k n ⟨#[]⟩)))
    have VB6 := hid ((VB5.out.below hb).below (below_alloc1 _ (vo k n ⟨#[]⟩)))
    have VZ6 := hid (VAt.new w6 k n ⟨#[]⟩ _ rfl)
    clear hb a0 a1 a2 b0 b1 b2 c0 c1 c2
    have a0 := VA6.out.c0; have a1 := VA6.out.c1; have a2 := VA6.out.c2
    have c0 := VZ6.out.c0; have c1 := VZ6.out.c1; have c2 := VZ6.out.c2
    have b0 := VB6.out.c0; have b1 := VB6.out.c1; have b2 := VB6.out.c2
    dsimp only
    go_wp2_with fail
    refine (num3_any 0 _).mono ?_
    rintro e wN ⟨rfl, rfl⟩
    go_wp2_with fail
    refine (Over_any k n _ k' n' s' _ (by decide) hs').mono ?_
    rw [HO.out]
    rintro e w7 ⟨rfl, hb⟩
    have H7 := hid (below_new (below_then H6.out hb) (vo o1 o2 ⟨#[]⟩))
    have VA7 := hid ((VA6.out.below hb).below (below_alloc1 _ (vo o1 o2 ⟨#[]⟩)))
    have VB7 := hid ((VB6.out.below hb).below (below_alloc1 _ (vo o1 o2 ⟨#[]⟩)))
    have VO7 := hid (VAt.new w7 o1 o2 ⟨#[]⟩ _ rfl)
    clear hb a0 a1 a2 b0 b1 b2 c0 c1 c2
    have a0 := VA7.out.c0; have a1 := VA7.out.c1; have a2 := VA7.out.c2
    have b0 := VB7.out.c0; have b1 := VB7.out.c1; have b2 := VB7.out.c2
    have c0 := VO7.out.c0; have c1 := VO7.out.c1; have c2 := VO7.out.c2
    dsimp only
    go_wp2_with fail
    refine (num3_any o3 _).mono ?_
    rintro e wN ⟨rfl, rfl⟩
    by_cases ho3 : o3 = 0
    · subst ho3
      by_cases hk1 : k = 1
      · subst hk1
        obtain ⟨m, hm, h1, h2⟩ := vover_times HO.out
        have HM := hid hm
        clear hm
        go_wp2_with fail
        refine (Times_any o1 o2 ⟨#[]⟩ k' n' s' _ (by decide) hs').mono ?_
        rw [HM.out]
        rintro e w8 ⟨rfl, hb⟩
        have H8 := hid (below_new (below_then H7.out hb) (vo 1 m ⟨#[]⟩))
        have VA8 := hid ((VA7.out.below hb).below (below_alloc1 _ (vo 1 m ⟨#[]⟩)))
        have VM8 := hid (VAt.new w8 1 m ⟨#[]⟩ _ rfl)
        clear hb a0 a1 a2 b0 b1 b2 c0 c1 c2
        have a0 := VA8.out.c0; have a1 := VA8.out.c1; have a2 := VA8.out.c2
        have c0 := VM8.out.c0; have c1 := VM8.out.c1; have c2 := VM8.out.c2
        dsimp only
        go_wp2_with fail
        refine (num3_any 0 _).mono ?_
        rintro e wN ⟨rfl, rfl⟩
        rcases Int.lt_trichotomy m 0 with hm | hm | hm
        · obtain ⟨g1, g2⟩ := h2 hm
          clear h1 h2
          go_wp2_with fail
          go_ret
          exact ⟨rfl, H8.out⟩
        · subst hm
          clear h1 h2
          go_wp2_with fail
          go_ret
          exact ⟨rfl, H8.out⟩
        · obtain ⟨g1, g2⟩ := h1 hm
          clear h1 h2
          go_wp2_with fail
          go_ret
          exact ⟨rfl, H8.out⟩
      · have hk1' : (k == 1) = false := by simp; omega
        go_wp2_with fail
        go_ret
        exact ⟨rfl, H7.out⟩
    · have ho3' : (o3 == 0) = false := by simp; omega
      go_wp2_with fail
      go_ret
      exact ⟨rfl, H7.out⟩
  · have hx3' : (x3 == 0) = false := by simp; omega
    have H6 := hid H5.out
    have VA6 := hid VA5.out
    have VB6 := hid VB5.out
    go_wp2_with fail
    refine (Over_any k n _ k' n' s' _ hs hs').mono ?_
    rw [HO.out]
    rintro e w7 ⟨rfl, hb⟩
    have H7 := hid (below_new (below_then H6.out hb) (vo o1 o2 ⟨#[]⟩))
    have VA7 := hid ((VA6.out.below hb).below (below_alloc1 _ (vo o1 o2 ⟨#[]⟩)))
    have VB7 := hid ((VB6.out.below hb).below (below_alloc1 _ (vo o1 o2 ⟨#[]⟩)))
    have VO7 := hid (VAt.new w7 o1 o2 ⟨#[]⟩ _ rfl)
    clear hb a0 a1 a2 b0 b1 b2 c0 c1 c2
    have a0 := VA7.out.c0; have a1 := VA7.out.c1; have a2 := VA7.out.c2
    have b0 := VB7.out.c0; have b1 := VB7.out.c1; have b2 := VB7.out.c2
    have c0 := VO7.out.c0; have c1 := VO7.out.c1; have c2 := VO7.out.c2
    dsimp only
    go_wp2_with fail
    refine (num3_any o3 _).mono ?_
    rintro e wN ⟨rfl, rfl⟩
    by_cases ho3 : o3 = 0
    · subst ho3
      by_cases hk1 : k = 1
      · subst hk1
        obtain ⟨m, hm, h1, h2⟩ := vover_times HO.out
        have HM := hid hm
        clear hm
        go_wp2_with fail
        refine (Times_any o1 o2 ⟨#[]⟩ k' n' s' _ (by decide) hs').mono ?_
        rw [HM.out]
        rintro e w8 ⟨rfl, hb⟩
        have H8 := hid (below_new (below_then H7.out hb) (vo 1 m ⟨#[]⟩))
        have VA8 := hid ((VA7.out.below hb).below (below_alloc1 _ (vo 1 m ⟨#[]⟩)))
        have VM8 := hid (VAt.new w8 1 m ⟨#[]⟩ _ rfl)
        clear hb a0 a1 a2 b0 b1 b2 c0 c1 c2
        have a0 := VA8.out.c0; have a1 := VA8.out.c1; have a2 := VA8.out.c2
        have c0 := VM8.out.c0; have c1 := VM8.out.c1; have c2 := VM8.out.c2
        dsimp only
        go_wp2_with fail
        refine (num3_any 0 _).mono ?_
        rintro e wN ⟨rfl, rfl⟩
        rcases Int.lt_trichotomy m 0 with hm | hm | hm
        · obtain ⟨g1, g2⟩ := h2 hm
          clear h1 h2
          go_wp2_with fail
          go_ret
          exact ⟨rfl, H8.out⟩
        · subst hm
          clear h1 h2
          go_wp2_with fail
          go_ret
          exact ⟨rfl, H8.out⟩
        · obtain ⟨g1, g2⟩ := h1 hm
          clear h1 h2
          go_wp2_with fail
          go_ret
          exact ⟨rfl, H8.out⟩
      · have hk1' : (k == 1) = false := by simp; omega
        go_wp2_with fail
        go_ret
        exact ⟨rfl, H7.out⟩
    · have ho3' : (o3 == 0) = false := by simp; omega
      go_wp2_with fail
      go_ret
      exact ⟨rfl, H7.out⟩
theorem ValueLaws_row (a : Array Value) (x : shValue.T) (b : Array Value) (y : shValue.T) (w : World) (ha : shValue.reads w a.toList x) (hb : shValue.reads w b.toList y) :
    Calls Tryd.prog 10 #[.agg a, .agg b] w fun e w' => e = .returned (.bool true) ∧ Below w.heap.size w w' := by
  rw [value_cut ha, value_cut hb]
  exact ValueLaws_walk _ _ _ _ _ _ w (value_cells ha).2.2.2 (value_cells hb).2.2.2
end Go.Proofs.YtdbghnfmhgjkaaaDoor
