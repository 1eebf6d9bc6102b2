/- Layer 3: the document's Times, Over, Add; the program's Add. -/
import Derived.Test.YtdbghnfmhgjkaaaDoorVaE
namespace Go.Proofs.YtdbghnfmhgjkaaaDoor
open Go.RowKit Go.Dio
set_option linter.unusedVariables false
set_option linter.unusedSimpArgs false

set_option maxRecDepth 100000 in
set_option maxHeartbeats 1000000 in
theorem both3_any (k n : Int) (s : ByteArray) (k' n' : Int) (s' : ByteArray) (w : World) (hs : s.size ≤ 9223372036854775807) (hs' : s'.size ≤ 9223372036854775807) :
    Calls Tryd.prog 74 #[vv k n s, vv k' n' s'] w fun e w' => e = .returned (.bool (vboth k n s k' n' s')) ∧ Below w.heap.size w w' := by
  have VA := hid ((VAt.new w k n s _ rfl).below (below_alloc1 _ (vo k' n' s')))
  have VB := hid (VAt.new (w.alloc (vo k n s)) k' n' s' (w.heap.size + 1) (by simp))
  have HV := hid (below_new (below_alloc1 w (vo k n s)) (vo k' n' s'))
  rcases ha : vright k n s with _ | _
  · have hB : vboth k n s k' n' s' = false := by rw [vboth, ha]; rfl
    go_enter Tryd.func74, Tryd.ntmps74
    go_wp2_with fail
    refine (rVRight_any k n s _ hs).mono ?_
    rw [ha]
    rintro e w1 ⟨rfl, hb1⟩
    have H1 := hid (below_then HV.out hb1)
    clear hb1
    go_wp2_with fail
    go_ret
    exact ⟨by rw [hB]; rfl, H1.out⟩
  · rcases hc : vright k' n' s' with _ | _
    all_goals
      go_enter Tryd.func74, Tryd.ntmps74
      go_wp2_with fail
      refine (rVRight_any k n s _ hs).mono ?_
      rw [ha]
      rintro e w1 ⟨rfl, hb1⟩
      have H1 := hid (below_then HV.out hb1)
      have VA1 := hid (VA.out.below hb1)
      have VB1 := hid (VB.out.below hb1)
      clear hb1
      have b0 := VB1.out.c0; have b1 := VB1.out.c1; have b2 := VB1.out.c2
      go_wp2_with fail
      refine (rVRight_any k' n' s' _ hs').mono ?_
      rw [hc]
      rintro e w2 ⟨rfl, hb2⟩
      have H2 := hid (below_then H1.out hb2)
      have VA2 := hid (VA1.out.below hb2)
      have VB2 := hid (VB1.out.below hb2)
      clear hb2 b0 b1 b2
      have a0 := VA2.out.c0
      have b0 := VB2.out.c0
    · have hB : vboth k n s k' n' s' = false := by rw [vboth, ha, hc]; rfl
      go_wp2_with fail
      go_ret
      exact ⟨by rw [hB]; rfl, H2.out⟩
    · have hB : vboth k n s k' n' s' = (decide (k = k') && decide (k = 1 ∨ k = 2)) := by rw [vboth, ha, hc]; rfl
      have hk : (k = k' ∧ k = 1) ∨ (k = k' ∧ k = 2) ∨ (k == k') = false ∨ (k = k' ∧ (k == 1) = false ∧ (k == 2) = false) := by
        simp only [beq_eq_false_iff_ne]; omega
      clear ha hc
      rcases hk with ⟨rfl, rfl⟩ | ⟨rfl, rfl⟩ | h1 | ⟨rfl, h1, h2⟩
      · have HB := hid (hB.trans (show _ = true by decide))
        clear hB
        go_wp2_with fail
        go_ret
        exact ⟨by rw [HB.out]; rfl, H2.out⟩
      · have HB := hid (hB.trans (show _ = true by decide))
        clear hB
        go_wp2_with fail
        go_ret
        exact ⟨by rw [HB.out]; rfl, H2.out⟩
      · have HB := hid (hB.trans (show _ = false by simp only [beq_eq_false_iff_ne] at h1; simp [h1]))
        clear hB
        go_wp2_with fail
        go_ret
        exact ⟨by rw [HB.out]; rfl, H2.out⟩
      · have HB := hid (hB.trans (show _ = false by simp only [beq_eq_false_iff_ne] at h1 h2; simp [h1, h2]))
        clear hB
        go_wp2_with fail
        go_ret
        exact ⟨by rw [HB.out]; rfl, H2.out⟩

/-- The three of the document. -/
def rtimes (k n : Int) (s : ByteArray) (k' n' : Int) (s' : ByteArray) : (Int × Int) × Int :=
  if vboth k n s k' n' s' = true then vanswer k (vsgn n n' (min (vmag k (vabs n * vabs n')) 2199023255552)) else ((0, 0), 1)
theorem vsgn_le {n n' m M : Int} (h0 : 0 ≤ m) (h : m ≤ M) : -M ≤ vsgn n n' m ∧ vsgn n n' m ≤ M := by unfold vsgn; split <;> omega
theorem vsgn_gt {n n' m M : Int} (h : M < m) (hM : 0 ≤ M) : ¬ (-M ≤ vsgn n n' m ∧ vsgn n n' m ≤ M) := by unfold vsgn; split <;> omega
theorem vboth_kind {k n : Int} {s : ByteArray} {k' n' : Int} {s' : ByteArray} (h : vboth k n s k' n' s' = true) : (k = 1 ∨ k = 2) ∧ k = k' ∧ (-1099511627776 ≤ n ∧ n ≤ 1099511627776) ∧ (-1099511627776 ≤ n' ∧ n' ≤ 1099511627776) := by
  simp only [vboth, Bool.and_eq_true, decide_eq_true_eq] at h
  obtain ⟨ha, hc, rfl, hk⟩ := h
  exact ⟨hk, rfl, vright_num ha hk, vright_num hc hk⟩
theorem vmag_nn {k P : Int} (h : 0 ≤ P) : 0 ≤ vmag k P := by unfold vmag; split <;> omega
theorem rtimes_eq (k n : Int) (s : ByteArray) (k' n' : Int) (s' : ByteArray) : rtimes k n s k' n' s' = vtimes k n s k' n' s' := by
  unfold rtimes vtimes
  rcases hb : vboth k n s k' n' s' with _ | _
  · rfl
  · simp only [if_true]
    obtain ⟨hk, _, hn, hn'⟩ := vboth_kind hb
    have h0 := vmag_nn (k := k) (Int.mul_nonneg (vabs_le hn).1 (vabs_le hn').1)
    rw [vanswer_one hk]
    generalize vmag k (vabs n * vabs n') = m at *
    by_cases ov : 1099511627776 < m
    · rw [if_pos ov, if_neg (vsgn_gt (by omega) (by omega))]
    · rw [if_neg ov, show min m 2199023255552 = m by omega, if_pos (vsgn_le h0 (by omega))]
theorem vadd_eq (k n : Int) (s : ByteArray) (k' n' : Int) (s' : ByteArray) : vadd k n s k' n' s' = if vboth k n s k' n' s' = true then vanswer k (n + n') else ((0, 0), 1) := by
  unfold vadd
  rcases hb : vboth k n s k' n' s' with _ | _
  · rfl
  · simp only [if_true]
    rw [vanswer_one (vboth_kind hb).1]
theorem vover_eq (k n : Int) (s : ByteArray) (k' n' : Int) (s' : ByteArray) : vover k n s k' n' s' = if vboth k n s k' n' s' = true then (if n' = 0 then ((0, 0), 31) else vanswer k (vsgn n n' (vquo k (vabs n) (vabs n')))) else ((0, 0), 1) := by
  unfold vover
  rcases hb : vboth k n s k' n' s' with _ | _
  · rfl
  · simp only [if_true]
    obtain ⟨hk, _, hn, hn'⟩ := vboth_kind hb
    by_cases h0 : n' = 0
    · subst h0; rw [if_pos (show vabs 0 = 0 from rfl), if_pos rfl]
    · have h1 : vabs n' ≠ 0 := by unfold vabs; split <;> omega
      rw [if_neg h0, if_neg h1, vanswer_one hk]
      have h2 := vabs_le hn
      have h3 := vabs_le hn'
      have hq : 0 ≤ vquo k (vabs n) (vabs n') := by
        unfold vquo
        split
        · exact Int.ediv_nonneg h2.1 h3.1
        · have := Int.ediv_nonneg (a := vabs n * 65536) (by omega) h3.1
          split <;> omega
      generalize vquo k (vabs n) (vabs n') = m at *
      by_cases ov : 1099511627776 < m
      · rw [if_pos ov, if_neg (vsgn_gt (by omega) (by omega))]
      · rw [if_neg ov, if_pos (vsgn_le hq (by omega))]

set_option maxRecDepth 100000 in
set_option maxHeartbeats 1000000 in
theorem rAdd_any (k n : Int) (s : ByteArray) (k' n' : Int) (s' : ByteArray) (w : World) (hs : s.size ≤ 9223372036854775807) (hs' : s'.size ≤ 9223372036854775807) :
    Calls Tryd.prog 30 #[vv k n s, vv k' n' s'] w fun e w' => e = .returned (vans (vadd k n s k' n' s')) ∧ Below w.heap.size w w' := by
  obtain ⟨V, hV⟩ : ∃ V, V = ((w.alloc (vo k n s)).alloc (vo k' n' s')).alloc (vo 0 0 ⟨#[]⟩) := ⟨_, rfl⟩
  have VA := hid (show VAt V w.heap.size k n s by rw [hV]; exact ((VAt.new w k n s _ rfl).below (below_alloc1 _ _)).below (below_alloc1 _ _))
  have VB := hid (show VAt V (w.heap.size + 1) k' n' s' by rw [hV]; exact (VAt.new _ k' n' s' _ (by simp)).below (below_alloc1 _ _))
  have VR := hid (show VAt V (w.heap.size + 1 + 1) 0 0 ⟨#[]⟩ by rw [hV]; exact VAt.new _ 0 0 _ _ (by simp))
  have HV := hid (show Below w.heap.size w V by rw [hV]; exact below_new (below_new (below_alloc1 w _) _) _)
  have HVE := hid hV; clear hV
  have hve := hid (vadd_eq k n s k' n' s')
  rcases hb : vboth k n s k' n' s' with _ | _
  all_goals
    have HBB := hid hb
    go_enter Tryd.func30, Tryd.ntmps30
    go_wp2_with fail
    rw [← HVE.out]
    refine (both3_any k n s k' n' s' V hs hs').mono ?_
    rw [hb]
    rintro e w1 ⟨rfl, hb1⟩
    have H1 := hid (below_then HV.out hb1)
    have VR1 := hid (VR.out.below hb1)
    have VA1 := hid (VA.out.below hb1)
    have VB1 := hid (VB.out.below hb1)
    clear hb1 hb
  · have f0 := VR1.out.fz 0; have f1 := VR1.out.fz 1; have f2 := VR1.out.fz 2
    have r0 := VR1.out.c0; have r1 := VR1.out.c1; have r2 := VR1.out.c2
    have hl := VR1.out.lt
    go_wp2_with fail
    (try simp only [Exit.inBlock, Exit.then]); refine bodyPost_ret (v := .tuple #[vv 0 0 ⟨#[]⟩, .int .i64 1]) (by simp [results, show Tryd.f30.results = #[.cell 4 49, .tmp 5] from rfl, go_sem, *]) rfl ?_
    refine ⟨by rw [hve.out, HBB.out]; rfl, ?_⟩
    repeat' first | exact H1.out | refine below_put ?_ _ _ _ (by omega)
  · obtain ⟨hk, hkk, hn, hn'⟩ := vboth_kind HBB.out
    have HK := hid hk; clear hk hkk
    have a0 := VA1.out.c0; have a1 := VA1.out.c1; have b1 := VB1.out.c1
    go_wp2_with fail
    refine (answer3_any k (n + n') _).mono ?_
    rintro e w2 ⟨rfl, hb2⟩
    have H2 := hid (below_then H1.out hb2)
    have VR2 := hid (VR1.out.below hb2)
    clear hb2 a0 a1 b1
    have f0 := VR2.out.fz 0; have f1 := VR2.out.fz 1; have f2 := VR2.out.fz 2
    have r0 := VR2.out.c0; have r1 := VR2.out.c1; have r2 := VR2.out.c2
    have hl := VR2.out.lt
    rcases hr : vanswer k (n + n') with ⟨⟨x1, x2⟩, x3⟩
    have HR := hid hr
    clear hr
    dsimp only at *
    go_wp2_with fail
    (try simp only [Exit.inBlock, Exit.then]); refine bodyPost_ret (v := .tuple #[vv x1 x2 ⟨#[]⟩, .int .i64 x3]) (by simp [results, show Tryd.f30.results = #[.cell 4 49, .tmp 5] from rfl, go_sem, *]) rfl ?_
    refine ⟨by rw [hve.out, HBB.out, if_pos rfl, HR.out], ?_⟩
    repeat' first | exact H2.out | refine below_put ?_ _ _ _ (by omega)
end Go.Proofs.YtdbghnfmhgjkaaaDoor
