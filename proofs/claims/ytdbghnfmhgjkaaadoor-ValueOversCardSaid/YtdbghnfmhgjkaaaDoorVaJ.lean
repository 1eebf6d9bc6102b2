/- Layer 3: the document's Over. -/
import Derived.Test.YtdbghnfmhgjkaaaDoorVaH
namespace Go.Proofs.YtdbghnfmhgjkaaaDoor
open Go.RowKit Go.Dio
set_option linter.unusedVariables false
set_option linter.unusedSimpArgs false

set_option maxRecDepth 100000 in
set_option maxHeartbeats 2000000 in
theorem rOver_any (k n : Int) (s : ByteArray) (k' n' : Int) (s' : ByteArray) (w : World) (hs : s.size ≤ 9223372036854775807) (hs' : s'.size ≤ 9223372036854775807) :
    Calls Tryd.prog 32 #[vv k n s, vv k' n' s'] w fun e w' => e = .returned (vans (vover k n s k' n' s')) ∧ Below w.heap.size w w' := by
  obtain ⟨V, hV⟩ : ∃ V, V = ((w.alloc (vo k n s)).alloc (vo k' n' s')).alloc (vo 0 0 ⟨#[]⟩) := ⟨_, rfl⟩
  have VA := hid (show VAt V w.heap.size k n s by rw [hV]; exact ((VAt.new w k n s _ rfl).below (below_alloc1 _ _)).below (below_alloc1 _ _))
  have VB := hid (show VAt V (w.heap.size + 1) k' n' s' by rw [hV]; exact (VAt.new _ k' n' s' _ (by simp)).below (below_alloc1 _ _))
  have VR := hid (show VAt V (w.heap.size + 1 + 1) 0 0 ⟨#[]⟩ by rw [hV]; exact VAt.new _ 0 0 _ _ (by simp))
  have HV := hid (show Below w.heap.size w V by rw [hV]; exact below_new (below_new (below_alloc1 w _) _) _)
  have HVE := hid hV; clear hV
  have hve := hid (vover_eq k n s k' n' s')
  rcases hb : vboth k n s k' n' s' with _ | _
  all_goals
    have HBB := hid hb
    go_enter Tryd.func32, Tryd.ntmps32
    go_wp2_with fail
    rw [← HVE.out]
    refine (both3_any k n s k' n' s' V hs hs').mono ?_
    rw [hb]
    rintro e w1 ⟨rfl, hb1⟩
    have H1 := hid (below_then HV.out hb1)
    have VR1 := hid (VR.out.below hb1)
    have VA1 := hid (VA.out.below hb1)
    have VB1 := hid (VB.out.below hb1)
    clear hb1 hb
  · have f0 := VR1.out.fz 0; have f1 := VR1.out.fz 1; have f2 := VR1.out.fz 2
    have r0 := VR1.out.c0; have r1 := VR1.out.c1; have r2 := VR1.out.c2
    have hl := VR1.out.lt
    go_wp2_with fail
    (try simp only [Exit.inBlock, Exit.then]); refine bodyPost_ret (v := .tuple #[vv 0 0 ⟨#[]⟩, .int .i64 1]) (by simp [results, show Tryd.f32.results = #[.cell 4 49, .tmp 5] from rfl, go_sem, *]) rfl ?_
    refine ⟨by rw [hve.out, HBB.out]; rfl, ?_⟩
    repeat' first | exact H1.out | refine below_put ?_ _ _ _ (by omega) | refine below_new ?_ _ | refine Below.drew ?_
  · obtain ⟨hk, hkk, hn, hn'⟩ := vboth_kind HBB.out
    subst hkk
    have a0 := VA1.out.c0; have a1 := VA1.out.c1; have b1 := VB1.out.c1
    by_cases hz : n' = 0
    · have HZ := hid hz
      subst hz
      have f0 := VR1.out.fz 0; have f1 := VR1.out.fz 1; have f2 := VR1.out.fz 2
      have r0 := VR1.out.c0; have r1 := VR1.out.c1; have r2 := VR1.out.c2
      have hl := VR1.out.lt
      go_wp2_with fail
      (try simp only [Exit.inBlock, Exit.then]); refine bodyPost_ret (v := .tuple #[vv 0 0 ⟨#[]⟩, .int .i64 31]) (by simp [results, show Tryd.f32.results = #[.cell 4 49, .tmp 5] from rfl, go_sem, *]) rfl ?_
      refine ⟨by rw [hve.out, HBB.out, if_pos rfl, if_pos trivial], ?_⟩
      repeat' first | exact H1.out | refine below_put ?_ _ _ _ (by omega) | refine below_new ?_ _ | refine Below.drew ?_
    · have HN := hid hz
      have hz1 : (n' == 0) = false := by simp; omega
      clear hz
      have hx := vabs_le hn
      have hy := vabs_le hn'
      have hy0 : 0 < vabs n' := by unfold vabs; have := HN.out; split <;> omega
      rcases hk with rfl | rfl
      · have hD : (vabs n).tdiv (vabs n') = vabs n / vabs n' := Int.tdiv_eq_ediv_of_nonneg hx.1
        have hD0 : 0 ≤ vabs n / vabs n' := Int.ediv_nonneg hx.1 hy.1
        have hD1 : vabs n / vabs n' ≤ vabs n := Int.ediv_le_self (vabs n') hx.1
        have HQ := hid (vquo1 (vabs n) (vabs n'))
        have hab := hid hn; have hab' := hid hn'
        go_wp2_with fail
        refine (abs3_any n _ hab.out).mono ?_
        rintro e wN ⟨rfl, rfl⟩
        go_wp2_with fail
        refine (abs3_any n' _ hab'.out).mono ?_
        rintro e wN ⟨rfl, rfl⟩
        have hyz : (vabs n' == 0) = false := by simp; omega
        go_wp2_with fail
        generalize vabs n = X at *
        generalize vabs n' = Y at *
        refine wp_region_held_drew (S := fun w' => w'.cell? ⟨w.heap.size, 0, none⟩ = some (.int .i64 1) ∧ w'.cell? ⟨w.heap.size, 1, none⟩ = some (.int .i64 n) ∧ w'.cell? ⟨w.heap.size + 1, 1, none⟩ = some (.int .i64 n')) (by kernel_rfl) (by exact ⟨a0, a1, b1⟩) (fun hHeld => ?_)
        refine takeL 0 (v := ?_) rfl (by kernel_rfl) (by kernel_rfl) (by kernel_rfl) (fun _ _ _ h => h) (by rfl) ?_ (by assumption) ?_
        case' refine_2 => (intro w hSw; (try dsimp only at hSw); go_simp; try with_reducible rfl)
        try simp only [Act.put, List.setIfInBounds_toArray, List.set_cons_zero, List.set_cons_succ]
        refine takeL 1 (v := ?_) rfl (by kernel_rfl) (by kernel_rfl) (by kernel_rfl) (fun _ _ _ h => h) (by rfl) ?_ (by assumption) ?_
        case' refine_2 => (intro w hSw; (try dsimp only at hSw); go_simp; try with_reducible rfl)
        try simp only [Act.put, List.setIfInBounds_toArray, List.set_cons_zero, List.set_cons_succ]
        refine takeL 2 (v := .int .i64 (X / Y)) rfl (by kernel_rfl) (by kernel_rfl) (by kernel_rfl) (fun _ _ _ h => h) (by rfl) ?_ (by assumption) ?_
        · intro w hSw
          go_simp
          rw [if_neg (by omega), show IntKind.i64.wrap (X / Y) = X / Y by simp only [IntKind.wrap_i64]; omega]
        try simp only [Act.put, List.setIfInBounds_toArray, List.set_cons_zero, List.set_cons_succ]
        refine takeL 3 (v := ?_) rfl (by kernel_rfl) (by kernel_rfl) (by kernel_rfl) (fun _ _ _ h => h) (by rfl) ?_ (by assumption) ?_
        case' refine_2 => (intro w hSw; (try dsimp only at hSw); go_simp; try with_reducible rfl)
        try simp only [Act.put, List.setIfInBounds_toArray, List.set_cons_zero, List.set_cons_succ]
        refine takeL 4 (v := ?_) rfl (by kernel_rfl) (by kernel_rfl) (by kernel_rfl) (fun _ _ _ h => h) (by rfl) ?_ (by assumption) ?_
        case' refine_2 => (intro w hSw; (try dsimp only at hSw); go_simp; try with_reducible rfl)
        try simp only [Act.put, List.setIfInBounds_toArray, List.set_cons_zero, List.set_cons_succ]
        refine takeL 5 (v := ?_) rfl (by kernel_rfl) (by kernel_rfl) (by kernel_rfl) (fun _ _ _ h => h) (by rfl) ?_ (by assumption) ?_
        case' refine_2 => (intro w hSw; (try dsimp only at hSw); go_simp; try with_reducible rfl)
        try simp only [Act.put, List.setIfInBounds_toArray, List.set_cons_zero, List.set_cons_succ]
        refine takeL 6 (v := ?_) rfl (by kernel_rfl) (by kernel_rfl) (by kernel_rfl) (fun _ _ _ h => h) (by rfl) ?_ (by assumption) ?_
        case' refine_2 => (intro w hSw; (try dsimp only at hSw); go_simp; try with_reducible rfl)
        try simp only [Act.put, List.setIfInBounds_toArray, List.set_cons_zero, List.set_cons_succ]
        refine soloL 7 rfl (by kernel_rfl) (fun K hK => ?_)
        go_simp
        go_at_call 78
        refine (signed3_any (X / Y) n n' _ (by omega)).mono ?_
        rintro e wN ⟨rfl, rfl⟩
        go_wp2_with fail
        refine hK.out _ _ hHeld (fun hHeld => ?_)
        clear hK K
        refine soloL 8 rfl (by kernel_rfl) (fun K hK => ?_)
        go_simp
        go_at_call 77
        refine (answer3_any 1 (vsgn n n' (X / Y)) _).mono ?_
        rintro e w2 ⟨rfl, hb2⟩
        have H2 := hid (below_then H1.out.drew hb2)
        have VR2 := hid (VR1.out.drew.below hb2)
        have VA2 := hid (VA1.out.drew.below hb2)
        have VB2 := hid (VB1.out.drew.below hb2)
        clear hb2
        have f0 := VR2.out.fz 0; have f1 := VR2.out.fz 1; have f2 := VR2.out.fz 2
        have r0 := VR2.out.c0; have r1 := VR2.out.c1; have r2 := VR2.out.c2
        have hl := VR2.out.lt
        rcases hr : vanswer 1 (vsgn n n' (X / Y)) with ⟨⟨x1, x2⟩, x3⟩
        have HR := hid hr
        clear hr
        dsimp only at *
        go_wp2_with fail
        refine hK.out _ _ ⟨VA2.out.c0, VA2.out.c1, VB2.out.c1⟩ (fun hHeld => ?_)
        clear hK K
        refine takeL 9 (v := ?_) rfl (by kernel_rfl) (by kernel_rfl) (by kernel_rfl) (fun _ _ _ h => h) (by rfl) ?_ (by assumption) ?_
        case' refine_2 => (intro w hSw; (try dsimp only at hSw); go_simp; try with_reducible rfl)
        try simp only [Act.put, List.setIfInBounds_toArray, List.set_cons_zero, List.set_cons_succ]
        refine takeL 10 (v := ?_) rfl (by kernel_rfl) (by kernel_rfl) (by kernel_rfl) (fun _ _ _ h => h) (by rfl) ?_ (by assumption) ?_
        case' refine_2 => (intro w hSw; (try dsimp only at hSw); go_simp; try with_reducible rfl)
        try simp only [Act.put, List.setIfInBounds_toArray, List.set_cons_zero, List.set_cons_succ]
        refine soloL 11 rfl (by kernel_rfl) (fun K hK => ?_)
        go_simp
        have HP := below_put (below_put (below_put (Below.refl (w.heap.size + 1 + 1) w2) (w.heap.size + 1 + 1) 0 (.int .i64 x1) (Nat.le_refl _)) (w.heap.size + 1 + 1) 1 (.int .i64 x2) (Nat.le_refl _)) (w.heap.size + 1 + 1) 2 (.string ⟨#[]⟩) (Nat.le_refl _)
        refine hK.out _ _ ⟨by rw [HP.cell (p := ⟨w.heap.size, 0, none⟩) (by simp; omega)]; exact VA2.out.c0, by rw [HP.cell (p := ⟨w.heap.size, 1, none⟩) (by simp; omega)]; exact VA2.out.c1, by rw [HP.cell (p := ⟨w.heap.size + 1, 1, none⟩) (by simp)]; exact VB2.out.c1⟩ (fun hHeld => ?_)
        clear hK K HP
        refine takeL 12 (v := ?_) rfl (by kernel_rfl) (by kernel_rfl) (by kernel_rfl) (fun _ _ _ h => h) (by rfl) ?_ (by assumption) ?_
        case' refine_2 => (intro w hSw; (try dsimp only at hSw); go_simp; try with_reducible rfl)
        try simp only [Act.put, List.setIfInBounds_toArray, List.set_cons_zero, List.set_cons_succ]
        refine wpAnyH_done (by kernel_rfl) ?_ _
        go_wp2_with fail
        (try simp only [Exit.inBlock, Exit.then]); refine bodyPost_ret (v := .tuple #[vv x1 x2 ⟨#[]⟩, .int .i64 x3]) (by simp [results, show Tryd.f32.results = #[.cell 4 49, .tmp 5] from rfl, go_sem, *]) rfl ?_
        refine ⟨by rw [hve.out, HBB.out, if_pos rfl, if_neg HN.out, HQ.out, HR.out], ?_⟩
        repeat' first | exact H2.out | refine below_put ?_ _ _ _ (by omega) | refine below_new ?_ _ | refine Below.drew ?_
      · have hD : (vabs n * 65536).tdiv (vabs n') = vabs n * 65536 / vabs n' := Int.tdiv_eq_ediv_of_nonneg (by omega)
        have hR : (vabs n * 65536).tmod (vabs n') = vabs n * 65536 % vabs n' := Int.tmod_eq_emod_of_nonneg (by omega)
        have hD0 : 0 ≤ vabs n * 65536 / vabs n' := Int.ediv_nonneg (by omega) hy.1
        have hD1 : vabs n * 65536 / vabs n' ≤ vabs n * 65536 := Int.ediv_le_self (vabs n') (by omega)
        have hR0 : 0 ≤ vabs n * 65536 % vabs n' := Int.emod_nonneg _ (by omega)
        have hR1 : vabs n * 65536 % vabs n' < vabs n' := Int.emod_lt_of_pos _ (by omega)
        have HQ := hid (vquo2 (vabs n) (vabs n'))
        have hab := hid hn; have hab' := hid hn'
        go_wp2_with fail
        refine (abs3_any n _ hab.out).mono ?_
        rintro e wN ⟨rfl, rfl⟩
        go_wp2_with fail
        refine (abs3_any n' _ hab'.out).mono ?_
        rintro e wN ⟨rfl, rfl⟩
        have hyz : (vabs n' == 0) = false := by simp; omega
        generalize vabs n = X at *
        generalize vabs n' = Y at *
        by_cases hge : Y ≤ 2 * (X * 65536 % Y)
        · have HQ := hid (HQ.out.trans (by rw [if_pos hge]))
          have hge' : Y ≤ X * 65536 % Y * 2 := by omega
          go_wp2_with fail
          refine (signed3_any (X * 65536 / Y + 1) n n' _ (by omega)).mono ?_
          rintro e wN ⟨rfl, rfl⟩
          go_wp2_with fail
          refine (answer3_any 2 (vsgn n n' (X * 65536 / Y + 1)) _).mono ?_
          rintro e w2 ⟨rfl, hb2⟩
          have H2 := hid (below_then H1.out hb2)
          have VR2 := hid (VR1.out.below hb2)
          have VA2 := hid (VA1.out.below hb2)
          have VB2 := hid (VB1.out.below hb2)
          clear hb2
          have f0 := VR2.out.fz 0; have f1 := VR2.out.fz 1; have f2 := VR2.out.fz 2
          have r0 := VR2.out.c0; have r1 := VR2.out.c1; have r2 := VR2.out.c2
          have hl := VR2.out.lt
          rcases hr : vanswer 2 (vsgn n n' (X * 65536 / Y + 1)) with ⟨⟨x1, x2⟩, x3⟩
          have HR := hid hr
          clear hr
          dsimp only at *
          go_wp2_with fail
          (try simp only [Exit.inBlock, Exit.then]); refine bodyPost_ret (v := .tuple #[vv x1 x2 ⟨#[]⟩, .int .i64 x3]) (by simp [results, show Tryd.f32.results = #[.cell 4 49, .tmp 5] from rfl, go_sem, *]) rfl ?_
          refine ⟨by rw [hve.out, HBB.out, if_pos rfl, if_neg HN.out, HQ.out, HR.out], ?_⟩
          repeat' first | exact H2.out | refine below_put ?_ _ _ _ (by omega) | refine below_new ?_ _ | refine Below.drew ?_
        · have HQ := hid (HQ.out.trans (by rw [if_neg hge, Int.add_zero]))
          have hge' : ¬ Y ≤ X * 65536 % Y * 2 := by omega
          go_wp2_with fail
          refine (signed3_any (X * 65536 / Y) n n' _ (by omega)).mono ?_
          rintro e wN ⟨rfl, rfl⟩
          go_wp2_with fail
          refine (answer3_any 2 (vsgn n n' (X * 65536 / Y)) _).mono ?_
          rintro e w2 ⟨rfl, hb2⟩
          have H2 := hid (below_then H1.out hb2)
          have VR2 := hid (VR1.out.below hb2)
          have VA2 := hid (VA1.out.below hb2)
          have VB2 := hid (VB1.out.below hb2)
          clear hb2
          have f0 := VR2.out.fz 0; have f1 := VR2.out.fz 1; have f2 := VR2.out.fz 2
          have r0 := VR2.out.c0; have r1 := VR2.out.c1; have r2 := VR2.out.c2
          have hl := VR2.out.lt
          rcases hr : vanswer 2 (vsgn n n' (X * 65536 / Y)) with ⟨⟨x1, x2⟩, x3⟩
          have HR := hid hr
          clear hr
          dsimp only at *
          go_wp2_with fail
          (try simp only [Exit.inBlock, Exit.then]); refine bodyPost_ret (v := .tuple #[vv x1 x2 ⟨#[]⟩, .int .i64 x3]) (by simp [results, show Tryd.f32.results = #[.cell 4 49, .tmp 5] from rfl, go_sem, *]) rfl ?_
          refine ⟨by rw [hve.out, HBB.out, if_pos rfl, if_neg HN.out, HQ.out, HR.out], ?_⟩
          repeat' first | exact H2.out | refine below_put ?_ _ _ _ (by omega) | refine below_new ?_ _ | refine Below.drew ?_
end Go.Proofs.YtdbghnfmhgjkaaaDoor
