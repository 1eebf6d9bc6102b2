/- Layer 3: the document's Times. -/
import Derived.Test.YtdbghnfmhgjkaaaDoorVaF
namespace Go.Proofs.YtdbghnfmhgjkaaaDoor
open Go.RowKit Go.Dio
set_option linter.unusedVariables false
set_option linter.unusedSimpArgs false
theorem VAt.drew {w : World} {b : Nat} {k n : Int} {s : ByteArray} (h : VAt w b k n s) : VAt w.drew b k n s := ⟨h.own⟩

set_option maxRecDepth 100000 in
set_option maxHeartbeats 2000000 in
theorem rTimes_any (k n : Int) (s : ByteArray) (k' n' : Int) (s' : ByteArray) (w : World) (hs : s.size ≤ 9223372036854775807) (hs' : s'.size ≤ 9223372036854775807) :
    Calls Tryd.prog 26 #[vv k n s, vv k' n' s'] w fun e w' => e = .returned (vans (rtimes k n s k' n' s')) ∧ Below w.heap.size w w' := by
  obtain ⟨V, hV⟩ : ∃ V, V = ((w.alloc (vo k n s)).alloc (vo k' n' s')).alloc (vo 0 0 ⟨#[]⟩) := ⟨_, rfl⟩
  have VA := hid (show VAt V w.heap.size k n s by rw [hV]; exact ((VAt.new w k n s _ rfl).below (below_alloc1 _ _)).below (below_alloc1 _ _))
  have VB := hid (show VAt V (w.heap.size + 1) k' n' s' by rw [hV]; exact (VAt.new _ k' n' s' _ (by simp)).below (below_alloc1 _ _))
  have VR := hid (show VAt V (w.heap.size + 1 + 1) 0 0 ⟨#[]⟩ by rw [hV]; exact VAt.new _ 0 0 _ _ (by simp))
  have HV := hid (show Below w.heap.size w V by rw [hV]; exact below_new (below_new (below_alloc1 w _) _) _)
  have HVE := hid hV; clear hV
  have hve := hid (show rtimes k n s k' n' s' = if vboth k n s k' n' s' = true then vanswer k (vsgn n n' (min (vmag k (vabs n * vabs n')) 2199023255552)) else ((0, 0), 1) from rfl)
  rcases hb : vboth k n s k' n' s' with _ | _
  all_goals
    have HBB := hid hb
    go_enter Tryd.func26, Tryd.ntmps26
    go_wp2_with fail
    rw [← HVE.out]
    refine (both3_any k n s k' n' s' V hs hs').mono ?_
    rw [hb]
    rintro e w1 ⟨rfl, hb1⟩
    have H1 := hid (below_then HV.out hb1)
    have VR1 := hid (VR.out.below hb1)
    have VA1 := hid (VA.out.below hb1)
    have VB1 := hid (VB.out.below hb1)
    clear hb1 hb
  · have f0 := VR1.out.fz 0; have f1 := VR1.out.fz 1; have f2 := VR1.out.fz 2
    have r0 := VR1.out.c0; have r1 := VR1.out.c1; have r2 := VR1.out.c2
    have hl := VR1.out.lt
    go_wp2_with fail
    (try simp only [Exit.inBlock, Exit.then]); refine bodyPost_ret (v := .tuple #[vv 0 0 ⟨#[]⟩, .int .i64 1]) (by simp [results, show Tryd.f26.results = #[.cell 4 49, .tmp 5] from rfl, go_sem, *]) rfl ?_
    refine ⟨by rw [hve.out, HBB.out]; rfl, ?_⟩
    repeat' first | exact H1.out | refine below_put ?_ _ _ _ (by omega) | refine below_new ?_ _ | refine Below.drew ?_
  · obtain ⟨hk, hkk, hn, hn'⟩ := vboth_kind HBB.out
    subst hkk
    have hx := vabs_le hn
    have hy := vabs_le hn'
    have hm0 := vmag_nn (k := k) (Int.mul_nonneg hx.1 hy.1)
    have a0 := VA1.out.c0; have a1 := VA1.out.c1; have b1 := VB1.out.c1
    have hpr := hid (fun w by_ h => product3_any k (vabs n) (vabs n') by_ w h hx hy)
    have hm1 : 0 ≤ min (vmag k (vabs n * vabs n')) 2199023255552 ∧ min (vmag k (vabs n * vabs n')) 2199023255552 ≤ 9223372036854775807 := by omega
    generalize min (vmag k (vabs n * vabs n')) 2199023255552 = m at *
    clear hm0
    rcases hk with rfl | rfl
    · skip
      go_wp2_with fail
      refine wp_region_held_drew (S := fun w' => w'.cell? ⟨w.heap.size, 0, none⟩ = some (.int .i64 1) ∧ w'.cell? ⟨w.heap.size, 1, none⟩ = some (.int .i64 n) ∧ w'.cell? ⟨w.heap.size + 1, 1, none⟩ = some (.int .i64 n')) (by kernel_rfl) (by exact ⟨a0, a1, b1⟩) (fun hHeld => ?_)
      refine takeL 0 (v := ?_) rfl (by kernel_rfl) (by kernel_rfl) (by kernel_rfl) (fun _ _ _ h => h) (by rfl) ?_ (by assumption) ?_
      case' refine_2 => (intro w hSw; (try dsimp only at hSw); go_simp; try with_reducible rfl)
      try simp only [Act.put, List.setIfInBounds_toArray, List.set_cons_zero, List.set_cons_succ]
      refine takeL 1 (v := ?_) rfl (by kernel_rfl) (by kernel_rfl) (by kernel_rfl) (fun _ _ _ h => h) (by rfl) ?_ (by assumption) ?_
      case' refine_2 => (intro w hSw; (try dsimp only at hSw); go_simp; try with_reducible rfl)
      try simp only [Act.put, List.setIfInBounds_toArray, List.set_cons_zero, List.set_cons_succ]
      refine takeL 3 (v := ?_) rfl (by kernel_rfl) (by kernel_rfl) (by kernel_rfl) (fun _ _ _ h => h) (by rfl) ?_ (by assumption) ?_
      case' refine_2 => (intro w hSw; (try dsimp only at hSw); go_simp; try with_reducible rfl)
      try simp only [Act.put, List.setIfInBounds_toArray, List.set_cons_zero, List.set_cons_succ]
      refine takeL 4 (v := ?_) rfl (by kernel_rfl) (by kernel_rfl) (by kernel_rfl) (fun _ _ _ h => h) (by rfl) ?_ (by assumption) ?_
      case' refine_2 => (intro w hSw; (try dsimp only at hSw); go_simp; try with_reducible rfl)
      try simp only [Act.put, List.setIfInBounds_toArray, List.set_cons_zero, List.set_cons_succ]
      refine takeL 6 (v := ?_) rfl (by kernel_rfl) (by kernel_rfl) (by kernel_rfl) (fun _ _ _ h => h) (by rfl) ?_ (by assumption) ?_
      case' refine_2 => (intro w hSw; (try dsimp only at hSw); go_simp; try with_reducible rfl)
      try simp only [Act.put, List.setIfInBounds_toArray, List.set_cons_zero, List.set_cons_succ]
      refine soloL 2 rfl (by kernel_rfl) (fun K hK => ?_)
      go_simp
      go_at_call 76
      refine (abs3_any n _ hn).mono ?_
      rintro e wN ⟨rfl, rfl⟩
      go_wp2_with fail
      refine hK.out _ _ hHeld (fun hHeld => ?_)
      clear hK K
      refine soloL 5 rfl (by kernel_rfl) (fun K hK => ?_)
      go_simp
      go_at_call 76
      refine (abs3_any n' _ hn').mono ?_
      rintro e wN ⟨rfl, rfl⟩
      go_wp2_with fail
      refine hK.out _ _ hHeld (fun hHeld => ?_)
      clear hK K
      refine soloL 7 rfl (by kernel_rfl) (fun K hK => ?_)
      go_simp
      go_at_call 75
      refine (hpr.out _ 1 (by decide)).mono ?_
      rintro e wN ⟨rfl, rfl⟩
      go_wp2_with fail
      refine hK.out _ _ hHeld (fun hHeld => ?_)
      clear hK K
      refine takeL 8 (v := ?_) rfl (by kernel_rfl) (by kernel_rfl) (by kernel_rfl) (fun _ _ _ h => h) (by rfl) ?_ (by assumption) ?_
      case' refine_2 => (intro w hSw; (try dsimp only at hSw); go_simp; try with_reducible rfl)
      try simp only [Act.put, List.setIfInBounds_toArray, List.set_cons_zero, List.set_cons_succ]
      refine wpAnyH_done (by kernel_rfl) ?_ _
      go_wp2_with fail
      refine wp_region_held_drew (S := fun w' => w'.cell? ⟨w.heap.size, 0, none⟩ = some (.int .i64 1) ∧ w'.cell? ⟨w.heap.size, 1, none⟩ = some (.int .i64 n) ∧ w'.cell? ⟨w.heap.size + 1, 1, none⟩ = some (.int .i64 n')) (by kernel_rfl) (by exact hHeld) (fun hHeld => ?_)
      refine takeL 0 (v := ?_) rfl (by kernel_rfl) (by kernel_rfl) (by kernel_rfl) (fun _ _ _ h => h) (by rfl) ?_ (by assumption) ?_
      case' refine_2 => (intro w hSw; (try dsimp only at hSw); go_simp; try with_reducible rfl)
      try simp only [Act.put, List.setIfInBounds_toArray, List.set_cons_zero, List.set_cons_succ]
      refine takeL 1 (v := ?_) rfl (by kernel_rfl) (by kernel_rfl) (by kernel_rfl) (fun _ _ _ h => h) (by rfl) ?_ (by assumption) ?_
      case' refine_2 => (intro w hSw; (try dsimp only at hSw); go_simp; try with_reducible rfl)
      try simp only [Act.put, List.setIfInBounds_toArray, List.set_cons_zero, List.set_cons_succ]
      refine takeL 2 (v := ?_) rfl (by kernel_rfl) (by kernel_rfl) (by kernel_rfl) (fun _ _ _ h => h) (by rfl) ?_ (by assumption) ?_
      case' refine_2 => (intro w hSw; (try dsimp only at hSw); go_simp; try with_reducible rfl)
      try simp only [Act.put, List.setIfInBounds_toArray, List.set_cons_zero, List.set_cons_succ]
      refine takeL 3 (v := ?_) rfl (by kernel_rfl) (by kernel_rfl) (by kernel_rfl) (fun _ _ _ h => h) (by rfl) ?_ (by assumption) ?_
      case' refine_2 => (intro w hSw; (try dsimp only at hSw); go_simp; try with_reducible rfl)
      try simp only [Act.put, List.setIfInBounds_toArray, List.set_cons_zero, List.set_cons_succ]
      refine takeL 4 (v := ?_) rfl (by kernel_rfl) (by kernel_rfl) (by kernel_rfl) (fun _ _ _ h => h) (by rfl) ?_ (by assumption) ?_
      case' refine_2 => (intro w hSw; (try dsimp only at hSw); go_simp; try with_reducible rfl)
      try simp only [Act.put, List.setIfInBounds_toArray, List.set_cons_zero, List.set_cons_succ]
      refine takeL 5 (v := ?_) rfl (by kernel_rfl) (by kernel_rfl) (by kernel_rfl) (fun _ _ _ h => h) (by rfl) ?_ (by assumption) ?_
      case' refine_2 => (intro w hSw; (try dsimp only at hSw); go_simp; try with_reducible rfl)
      try simp only [Act.put, List.setIfInBounds_toArray, List.set_cons_zero, List.set_cons_succ]
      refine takeL 6 (v := ?_) rfl (by kernel_rfl) (by kernel_rfl) (by kernel_rfl) (fun _ _ _ h => h) (by rfl) ?_ (by assumption) ?_
      case' refine_2 => (intro w hSw; (try dsimp only at hSw); go_simp; try with_reducible rfl)
      try simp only [Act.put, List.setIfInBounds_toArray, List.set_cons_zero, List.set_cons_succ]
      refine soloL 7 rfl (by kernel_rfl) (fun K hK => ?_)
      go_simp
      go_at_call 78
      refine (signed3_any m n n' _ hm1).mono ?_
      rintro e wN ⟨rfl, rfl⟩
      go_wp2_with fail
      refine hK.out _ _ hHeld (fun hHeld => ?_)
      clear hK K
      refine soloL 8 rfl (by kernel_rfl) (fun K hK => ?_)
      go_simp
      go_at_call 77
      refine (answer3_any 1 (vsgn n n' m) _).mono ?_
      rintro e w2 ⟨rfl, hb2⟩
      have H2 := hid (below_then H1.out.drew.drew hb2)
      have VR2 := hid (VR1.out.drew.drew.below hb2)
      have VA2 := hid (VA1.out.drew.drew.below hb2)
      have VB2 := hid (VB1.out.drew.drew.below hb2)
      clear hb2
      have f0 := VR2.out.fz 0; have f1 := VR2.out.fz 1; have f2 := VR2.out.fz 2
      have r0 := VR2.out.c0; have r1 := VR2.out.c1; have r2 := VR2.out.c2
      have hl := VR2.out.lt
      rcases hr : vanswer 1 (vsgn n n' m) with ⟨⟨x1, x2⟩, x3⟩
      have HR := hid hr
      clear hr
      dsimp only at *
      go_wp2_with fail
      refine hK.out _ _ ⟨VA2.out.c0, VA2.out.c1, VB2.out.c1⟩ (fun hHeld => ?_)
      clear hK K
      refine takeL 9 (v := ?_) rfl (by kernel_rfl) (by kernel_rfl) (by kernel_rfl) (fun _ _ _ h => h) (by rfl) ?_ (by assumption) ?_
      case' refine_2 => (intro w hSw; (try dsimp only at hSw); go_simp; try with_reducible rfl)
      try simp only [Act.put, List.setIfInBounds_toArray, List.set_cons_zero, List.set_cons_succ]
      refine takeL 10 (v := ?_) rfl (by kernel_rfl) (by kernel_rfl) (by kernel_rfl) (fun _ _ _ h => h) (by rfl) ?_ (by assumption) ?_
      case' refine_2 => (intro w hSw; (try dsimp only at hSw); go_simp; try with_reducible rfl)
      try simp only [Act.put, List.setIfInBounds_toArray, List.set_cons_zero, List.set_cons_succ]
      refine soloL 11 rfl (by kernel_rfl) (fun K hK => ?_)
      go_simp
      have HP := below_put (below_put (below_put (Below.refl (w.heap.size + 1 + 1) w2) (w.heap.size + 1 + 1) 0 (.int .i64 x1) (Nat.le_refl _)) (w.heap.size + 1 + 1) 1 (.int .i64 x2) (Nat.le_refl _)) (w.heap.size + 1 + 1) 2 (.string ⟨#[]⟩) (Nat.le_refl _)
      refine hK.out _ _ ⟨by rw [HP.cell (p := ⟨w.heap.size, 0, none⟩) (by simp; omega)]; exact VA2.out.c0, by rw [HP.cell (p := ⟨w.heap.size, 1, none⟩) (by simp; omega)]; exact VA2.out.c1, by rw [HP.cell (p := ⟨w.heap.size + 1, 1, none⟩) (by simp)]; exact VB2.out.c1⟩ (fun hHeld => ?_)
      clear hK K HP
      refine takeL 12 (v := ?_) rfl (by kernel_rfl) (by kernel_rfl) (by kernel_rfl) (fun _ _ _ h => h) (by rfl) ?_ (by assumption) ?_
      case' refine_2 => (intro w hSw; (try dsimp only at hSw); go_simp; try with_reducible rfl)
      try simp only [Act.put, List.setIfInBounds_toArray, List.set_cons_zero, List.set_cons_succ]
      refine wpAnyH_done (by kernel_rfl) ?_ _
      go_wp2_with fail
      (try simp only [Exit.inBlock, Exit.then]); refine bodyPost_ret (v := .tuple #[vv x1 x2 ⟨#[]⟩, .int .i64 x3]) (by simp [results, show Tryd.f26.results = #[.cell 4 49, .tmp 5] from rfl, go_sem, *]) rfl ?_
      refine ⟨by rw [hve.out, HBB.out, if_pos rfl, HR.out], ?_⟩
      repeat' first | exact H2.out | refine below_put ?_ _ _ _ (by omega) | refine below_new ?_ _ | refine Below.drew ?_
    · skip
      go_wp2_with fail
      refine wp_region_held_drew (S := fun w' => w'.cell? ⟨w.heap.size, 0, none⟩ = some (.int .i64 2) ∧ w'.cell? ⟨w.heap.size, 1, none⟩ = some (.int .i64 n) ∧ w'.cell? ⟨w.heap.size + 1, 1, none⟩ = some (.int .i64 n')) (by kernel_rfl) (by exact ⟨a0, a1, b1⟩) (fun hHeld => ?_)
      refine takeL 0 (v := ?_) rfl (by kernel_rfl) (by kernel_rfl) (by kernel_rfl) (fun _ _ _ h => h) (by rfl) ?_ (by assumption) ?_
      case' refine_2 => (intro w hSw; (try dsimp only at hSw); go_simp; try with_reducible rfl)
      try simp only [Act.put, List.setIfInBounds_toArray, List.set_cons_zero, List.set_cons_succ]
      refine takeL 1 (v := ?_) rfl (by kernel_rfl) (by kernel_rfl) (by kernel_rfl) (fun _ _ _ h => h) (by rfl) ?_ (by assumption) ?_
      case' refine_2 => (intro w hSw; (try dsimp only at hSw); go_simp; try with_reducible rfl)
      try simp only [Act.put, List.setIfInBounds_toArray, List.set_cons_zero, List.set_cons_succ]
      refine takeL 3 (v := ?_) rfl (by kernel_rfl) (by kernel_rfl) (by kernel_rfl) (fun _ _ _ h => h) (by rfl) ?_ (by assumption) ?_
      case' refine_2 => (intro w hSw; (try dsimp only at hSw); go_simp; try with_reducible rfl)
      try simp only [Act.put, List.setIfInBounds_toArray, List.set_cons_zero, List.set_cons_succ]
      refine takeL 4 (v := ?_) rfl (by kernel_rfl) (by kernel_rfl) (by kernel_rfl) (fun _ _ _ h => h) (by rfl) ?_ (by assumption) ?_
      case' refine_2 => (intro w hSw; (try dsimp only at hSw); go_simp; try with_reducible rfl)
      try simp only [Act.put, List.setIfInBounds_toArray, List.set_cons_zero, List.set_cons_succ]
      refine takeL 6 (v := ?_) rfl (by kernel_rfl) (by kernel_rfl) (by kernel_rfl) (fun _ _ _ h => h) (by rfl) ?_ (by assumption) ?_
      case' refine_2 => (intro w hSw; (try dsimp only at hSw); go_simp; try with_reducible rfl)
      try simp only [Act.put, List.setIfInBounds_toArray, List.set_cons_zero, List.set_cons_succ]
      refine soloL 2 rfl (by kernel_rfl) (fun K hK => ?_)
      go_simp
      go_at_call 76
      refine (abs3_any n _ hn).mono ?_
      rintro e wN ⟨rfl, rfl⟩
      go_wp2_with fail
      refine hK.out _ _ hHeld (fun hHeld => ?_)
      clear hK K
      refine soloL 5 rfl (by kernel_rfl) (fun K hK => ?_)
      go_simp
      go_at_call 76
      refine (abs3_any n' _ hn').mono ?_
      rintro e wN ⟨rfl, rfl⟩
      go_wp2_with fail
      refine hK.out _ _ hHeld (fun hHeld => ?_)
      clear hK K
      refine soloL 7 rfl (by kernel_rfl) (fun K hK => ?_)
      go_simp
      go_at_call 75
      refine (hpr.out _ 65536 (by decide)).mono ?_
      rintro e wN ⟨rfl, rfl⟩
      go_wp2_with fail
      refine hK.out _ _ hHeld (fun hHeld => ?_)
      clear hK K
      refine takeL 8 (v := ?_) rfl (by kernel_rfl) (by kernel_rfl) (by kernel_rfl) (fun _ _ _ h => h) (by rfl) ?_ (by assumption) ?_
      case' refine_2 => (intro w hSw; (try dsimp only at hSw); go_simp; try with_reducible rfl)
      try simp only [Act.put, List.setIfInBounds_toArray, List.set_cons_zero, List.set_cons_succ]
      refine wpAnyH_done (by kernel_rfl) ?_ _
      go_wp2_with fail
      refine wp_region_held_drew (S := fun w' => w'.cell? ⟨w.heap.size, 0, none⟩ = some (.int .i64 2) ∧ w'.cell? ⟨w.heap.size, 1, none⟩ = some (.int .i64 n) ∧ w'.cell? ⟨w.heap.size + 1, 1, none⟩ = some (.int .i64 n')) (by kernel_rfl) (by exact hHeld) (fun hHeld => ?_)
      refine takeL 0 (v := ?_) rfl (by kernel_rfl) (by kernel_rfl) (by kernel_rfl) (fun _ _ _ h => h) (by rfl) ?_ (by assumption) ?_
      case' refine_2 => (intro w hSw; (try dsimp only at hSw); go_simp; try with_reducible rfl)
      try simp only [Act.put, List.setIfInBounds_toArray, List.set_cons_zero, List.set_cons_succ]
      refine takeL 1 (v := ?_) rfl (by kernel_rfl) (by kernel_rfl) (by kernel_rfl) (fun _ _ _ h => h) (by rfl) ?_ (by assumption) ?_
      case' refine_2 => (intro w hSw; (try dsimp only at hSw); go_simp; try with_reducible rfl)
      try simp only [Act.put, List.setIfInBounds_toArray, List.set_cons_zero, List.set_cons_succ]
      refine takeL 2 (v := ?_) rfl (by kernel_rfl) (by kernel_rfl) (by kernel_rfl) (fun _ _ _ h => h) (by rfl) ?_ (by assumption) ?_
      case' refine_2 => (intro w hSw; (try dsimp only at hSw); go_simp; try with_reducible rfl)
      try simp only [Act.put, List.setIfInBounds_toArray, List.set_cons_zero, List.set_cons_succ]
      refine takeL 3 (v := ?_) rfl (by kernel_rfl) (by kernel_rfl) (by kernel_rfl) (fun _ _ _ h => h) (by rfl) ?_ (by assumption) ?_
      case' refine_2 => (intro w hSw; (try dsimp only at hSw); go_simp; try with_reducible rfl)
      try simp only [Act.put, List.setIfInBounds_toArray, List.set_cons_zero, List.set_cons_succ]
      refine takeL 4 (v := ?_) rfl (by kernel_rfl) (by kernel_rfl) (by kernel_rfl) (fun _ _ _ h => h) (by rfl) ?_ (by assumption) ?_
      case' refine_2 => (intro w hSw; (try dsimp only at hSw); go_simp; try with_reducible rfl)
      try simp only [Act.put, List.setIfInBounds_toArray, List.set_cons_zero, List.set_cons_succ]
      refine takeL 5 (v := ?_) rfl (by kernel_rfl) (by kernel_rfl) (by kernel_rfl) (fun _ _ _ h => h) (by rfl) ?_ (by assumption) ?_
      case' refine_2 => (intro w hSw; (try dsimp only at hSw); go_simp; try with_reducible rfl)
      try simp only [Act.put, List.setIfInBounds_toArray, List.set_cons_zero, List.set_cons_succ]
      refine takeL 6 (v := ?_) rfl (by kernel_rfl) (by kernel_rfl) (by kernel_rfl) (fun _ _ _ h => h) (by rfl) ?_ (by assumption) ?_
      case' refine_2 => (intro w hSw; (try dsimp only at hSw); go_simp; try with_reducible rfl)
      try simp only [Act.put, List.setIfInBounds_toArray, List.set_cons_zero, List.set_cons_succ]
      refine soloL 7 rfl (by kernel_rfl) (fun K hK => ?_)
      go_simp
      go_at_call 78
      refine (signed3_any m n n' _ hm1).mono ?_
      rintro e wN ⟨rfl, rfl⟩
      go_wp2_with fail
      refine hK.out _ _ hHeld (fun hHeld => ?_)
      clear hK K
      refine soloL 8 rfl (by kernel_rfl) (fun K hK => ?_)
      go_simp
      go_at_call 77
      refine (answer3_any 2 (vsgn n n' m) _).mono ?_
      rintro e w2 ⟨rfl, hb2⟩
      have H2 := hid (below_then H1.out.drew.drew hb2)
      have VR2 := hid (VR1.out.drew.drew.below hb2)
      have VA2 := hid (VA1.out.drew.drew.below hb2)
      have VB2 := hid (VB1.out.drew.drew.below hb2)
      clear hb2
      have f0 := VR2.out.fz 0; have f1 := VR2.out.fz 1; have f2 := VR2.out.fz 2
      have r0 := VR2.out.c0; have r1 := VR2.out.c1; have r2 := VR2.out.c2
      have hl := VR2.out.lt
      rcases hr : vanswer 2 (vsgn n n' m) with ⟨⟨x1, x2⟩, x3⟩
      have HR := hid hr
      clear hr
      dsimp only at *
      go_wp2_with fail
      refine hK.out _ _ ⟨VA2.out.c0, VA2.out.c1, VB2.out.c1⟩ (fun hHeld => ?_)
      clear hK K
      refine takeL 9 (v := ?_) rfl (by kernel_rfl) (by kernel_rfl) (by kernel_rfl) (fun _ _ _ h => h) (by rfl) ?_ (by assumption) ?_
      case' refine_2 => (intro w hSw; (try dsimp only at hSw); go_simp; try with_reducible rfl)
      try simp only [Act.put, List.setIfInBounds_toArray, List.set_cons_zero, List.set_cons_succ]
      refine takeL 10 (v := ?_) rfl (by kernel_rfl) (by kernel_rfl) (by kernel_rfl) (fun _ _ _ h => h) (by rfl) ?_ (by assumption) ?_
      case' refine_2 => (intro w hSw; (try dsimp only at hSw); go_simp; try with_reducible rfl)
      try simp only [Act.put, List.setIfInBounds_toArray, List.set_cons_zero, List.set_cons_succ]
      refine soloL 11 rfl (by kernel_rfl) (fun K hK => ?_)
      go_simp
      have HP := below_put (below_put (below_put (Below.refl (w.heap.size + 1 + 1) w2) (w.heap.size + 1 + 1) 0 (.int .i64 x1) (Nat.le_refl _)) (w.heap.size + 1 + 1) 1 (.int .i64 x2) (Nat.le_refl _)) (w.heap.size + 1 + 1) 2 (.string ⟨#[]⟩) (Nat.le_refl _)
      refine hK.out _ _ ⟨by rw [HP.cell (p := ⟨w.heap.size, 0, none⟩) (by simp; omega)]; exact VA2.out.c0, by rw [HP.cell (p := ⟨w.heap.size, 1, none⟩) (by simp; omega)]; exact VA2.out.c1, by rw [HP.cell (p := ⟨w.heap.size + 1, 1, none⟩) (by simp)]; exact VB2.out.c1⟩ (fun hHeld => ?_)
      clear hK K HP
      refine takeL 12 (v := ?_) rfl (by kernel_rfl) (by kernel_rfl) (by kernel_rfl) (fun _ _ _ h => h) (by rfl) ?_ (by assumption) ?_
      case' refine_2 => (intro w hSw; (try dsimp only at hSw); go_simp; try with_reducible rfl)
      try simp only [Act.put, List.setIfInBounds_toArray, List.set_cons_zero, List.set_cons_succ]
      refine wpAnyH_done (by kernel_rfl) ?_ _
      go_wp2_with fail
      (try simp only [Exit.inBlock, Exit.then]); refine bodyPost_ret (v := .tuple #[vv x1 x2 ⟨#[]⟩, .int .i64 x3]) (by simp [results, show Tryd.f26.results = #[.cell 4 49, .tmp 5] from rfl, go_sem, *]) rfl ?_
      refine ⟨by rw [hve.out, HBB.out, if_pos rfl, HR.out], ?_⟩
      repeat' first | exact H2.out | refine below_put ?_ _ _ _ (by omega) | refine below_new ?_ _ | refine Below.drew ?_
end Go.Proofs.YtdbghnfmhgjkaaaDoor
