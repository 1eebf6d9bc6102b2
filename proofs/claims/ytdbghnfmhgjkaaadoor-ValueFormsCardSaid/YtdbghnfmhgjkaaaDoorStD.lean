/- Layer 2: the document's clock; no clock, and one that nobody made. -/
import Derived.Test.YtdbghnfmhgjkaaaDoorStC
namespace Go.Proofs.YtdbghnfmhgjkaaaDoor
open Go.RowKit Go.Dio
set_option linter.unusedVariables false
set_option linter.unusedSimpArgs false

set_option maxRecDepth 100000 in
set_option maxHeartbeats 1000000 in
theorem rNext2_any (base p : Nat) (r t n : Int) (w : World) (h : RclkAt w base p r t) (hn : n ≤ 9223372036854775807) :
    Calls Tryd.prog 67 #[.pointer (some ⟨p, 0, none⟩), .int .i64 n] w
      (RclkOut w base p (.tuple #[stv (cnext r t n).1.1 (cnext r t n).1.2, .int .i64 (cnext r t n).2.1]) r (cnext r t n).2.2) := by
  have H := hid h
  have hbd := h.bd
  have c0 : w.cell? ⟨p, 0, none⟩ = some (.int .i64 r) := by simp [World.cell?, h.own]
  have c1 : w.cell? ⟨p, 1, none⟩ = some (.int .i64 t) := by simp [World.cell?, h.own]
  have f1 : w.frozen? ⟨p, 1, none⟩ = false := by simp [World.frozen?, h.own]
  have hlt := h.lt
  have hne := World.new_ne w _ c1
  clear h
  by_cases hn1 : n < 1
  · have hc := hid (show cnext r t n = ((0, 0), 1, t) by rw [cnext, if_pos hn1])
    go_enter Tryd.func67, Tryd.ntmps67
    go_wp2_with fail
    (try simp only [Exit.inBlock, Exit.then]); refine bodyPost_ret (v := .tuple #[stv 0 0, .int .i64 1]) (by simp [results, show Tryd.f67.results = #[.cell 4 33, .tmp 5] from rfl, go_sem]) rfl ?_
    rw [hc.out]
    refine ⟨rfl, H.out.grown (row := none) ?g1 (by simp), ?g2⟩
    case g1 => exact grown_alloc (World.grownBy.refl _ _) _
    case g2 => exact grown_alloc (World.grownBy.refl _ _) _
  · by_cases hn2 : 1099511627776 - t < n
    · have hc := hid (show cnext r t n = ((0, 0), 30, t) by rw [cnext, if_neg hn1, if_pos hn2])
      go_enter Tryd.func67, Tryd.ntmps67
      go_wp2_with fail
      (try simp only [Exit.inBlock, Exit.then]); refine bodyPost_ret (v := .tuple #[stv 0 0, .int .i64 30]) (by simp [results, show Tryd.f67.results = #[.cell 4 33, .tmp 5] from rfl, go_sem]) rfl ?_
      rw [hc.out]
      refine ⟨rfl, H.out.grown (row := none) ?g3 (by simp), ?g4⟩
      case g3 => exact grown_alloc (World.grownBy.refl _ _) _
      case g4 => exact grown_alloc (World.grownBy.refl _ _) _
    · have hc := hid (show cnext r t n = ((t + 1, r), 0, t + n) by rw [cnext, if_neg hn1, if_neg hn2])
      go_enter Tryd.func67, Tryd.ntmps67
      go_wp2_with fail
      have hw : IntKind.i64.wrap (t + n) = t + n := by simp only [IntKind.wrap_i64]; omega
      refine wp_region_held_drew (S := fun w' => w'.cell? ⟨p, 0, none⟩ = some (.int .i64 r) ∧ w'.cell? ⟨p, 1, none⟩ = some (.int .i64 t)) (by kernel_rfl) (by go_keep) (fun hHeld => ?_)
      refine takeL 0 (v := ?_) rfl (by kernel_rfl) (by kernel_rfl) (by kernel_rfl) (fun _ _ _ h => h) (by rfl) ?_ (by assumption) ?_
      case' refine_2 => (intro w hSw; (try dsimp only at hSw); go_simp; try with_reducible rfl)
      try simp only [Act.put, List.setIfInBounds_toArray, List.set_cons_zero, List.set_cons_succ]
      refine takeL 1 (v := ?_) rfl (by kernel_rfl) (by kernel_rfl) (by kernel_rfl) (fun _ _ _ h => h) (by rfl) ?_ (by assumption) ?_
      case' refine_2 => (intro w hSw; (try dsimp only at hSw); go_simp; try with_reducible rfl)
      try simp only [Act.put, List.setIfInBounds_toArray, List.set_cons_zero, List.set_cons_succ]
      refine takeL 2 (v := ?_) rfl (by kernel_rfl) (by kernel_rfl) (by kernel_rfl) (fun _ _ _ h => h) (by rfl) ?_ (by assumption) ?_
      case' refine_2 => (intro w hSw; (try dsimp only at hSw); go_simp; try with_reducible rfl)
      try simp only [Act.put, List.setIfInBounds_toArray, List.set_cons_zero, List.set_cons_succ]
      refine takeL 3 (v := ?_) rfl (by kernel_rfl) (by kernel_rfl) (by kernel_rfl) (fun _ _ _ h => h) (by rfl) ?_ (by assumption) ?_
      case' refine_2 => (intro w hSw; (try dsimp only at hSw); go_simp; try with_reducible rfl)
      try simp only [Act.put, List.setIfInBounds_toArray, List.set_cons_zero, List.set_cons_succ]
      refine takeL 4 (v := ?_) rfl (by kernel_rfl) (by kernel_rfl) (by kernel_rfl) (fun _ _ _ h => h) (by rfl) ?_ (by assumption) ?_
      case' refine_2 => (intro w hSw; (try dsimp only at hSw); go_simp; try with_reducible rfl)
      try simp only [Act.put, List.setIfInBounds_toArray, List.set_cons_zero, List.set_cons_succ]
      refine takeL 5 (v := ?_) rfl (by kernel_rfl) (by kernel_rfl) (by kernel_rfl) (fun _ _ _ h => h) (by rfl) ?_ (by assumption) ?_
      case' refine_2 => (intro w hSw; (try dsimp only at hSw); go_simp; try with_reducible rfl)
      try simp only [Act.put, List.setIfInBounds_toArray, List.set_cons_zero, List.set_cons_succ]
      refine takeL 6 (v := ?_) rfl (by kernel_rfl) (by kernel_rfl) (by kernel_rfl) (fun _ _ _ h => h) (by rfl) ?_ (by assumption) ?_
      case' refine_2 => (intro w hSw; (try dsimp only at hSw); go_simp; try with_reducible rfl)
      try simp only [Act.put, List.setIfInBounds_toArray, List.set_cons_zero, List.set_cons_succ]
      refine takeL 7 (v := ?_) rfl (by kernel_rfl) (by kernel_rfl) (by kernel_rfl) (fun _ _ _ h => h) (by rfl) ?_ (by assumption) ?_
      case' refine_2 => (intro w hSw; (try dsimp only at hSw); go_simp; try with_reducible rfl)
      try simp only [Act.put, List.setIfInBounds_toArray, List.set_cons_zero, List.set_cons_succ]
      refine takeL 8 (v := ?_) rfl (by kernel_rfl) (by kernel_rfl) (by kernel_rfl) (fun _ _ _ h => h) (by rfl) ?_ (by assumption) ?_
      case' refine_2 => (intro w hSw; (try dsimp only at hSw); go_simp; try with_reducible rfl)
      try simp only [Act.put, List.setIfInBounds_toArray, List.set_cons_zero, List.set_cons_succ]
      refine takeL 9 (v := ?_) rfl (by kernel_rfl) (by kernel_rfl) (by kernel_rfl) (fun _ _ _ h => h) (by rfl) ?_ (by assumption) ?_
      case' refine_2 => (intro w hSw; (try dsimp only at hSw); go_simp; try with_reducible rfl)
      try simp only [Act.put, List.setIfInBounds_toArray, List.set_cons_zero, List.set_cons_succ]
      refine soloL 10 rfl (by kernel_rfl) (fun K hK => ?_)
      go_simp
      refine hK.out _ _ (by go_keep) (fun hHeld => ?_)
      clear hK K
      refine soloL 11 rfl (by kernel_rfl) (fun K hK => ?_)
      go_simp
      refine hK.out _ _ (by go_keep) (fun hHeld => ?_)
      clear hK K
      refine wpAnyH_done (by kernel_rfl) ?_ _
      obtain ⟨k0, k1⟩ := hHeld
      go_wp2_with fail
      (try simp only [Exit.inBlock, Exit.then]); refine bodyPost_ret (v := .tuple #[stv (t + 1) r, .int .i64 0]) (by simp [results, show Tryd.f67.results = #[.cell 4 33, .tmp 5] from rfl, go_sem]) rfl ?_
      rw [hc.out]
      refine ⟨rfl, (H.out.setT (t + n) (by omega)).grown (row := none) ?g5 (by simp), ?g6⟩
      case g5 => repeat' first | exact World.grownBy.refl _ _ | refine grown_drew ?_ | refine grown_alloc ?_ _
      case g6 => repeat' first | exact World.grownBy.refl _ _ | refine grown_drew ?_ | refine grown_alloc ?_ _ | refine grown_put ?_ _ _ _ (.inr rfl)

/-- See. -/
theorem rSee2_any (base p : Nat) (r t t' r' : Int) (w : World) (h : RclkAt w base p r t) :
    Calls Tryd.prog 68 #[.pointer (some ⟨p, 0, none⟩), stv t' r'] w
      (RclkOut w base p (.int .i64 (csee t t' r').1) r (csee t t' r').2) := by
  have H := hid h
  have hbd := h.bd
  have c1 : w.cell? ⟨p, 1, none⟩ = some (.int .i64 t) := by simp [World.cell?, h.own]
  have f1 : w.frozen? ⟨p, 1, none⟩ = false := by simp [World.frozen?, h.own]
  have hlt := h.lt
  have hne := World.new_ne w _ c1
  clear h
  rcases hs : sright t' r' with _ | _
  · have hc := hid (show csee t t' r' = (1, t) by rw [csee, hs]; rfl)
    go_enter Tryd.func68, Tryd.ntmps68
    go_wp2_with fail
    refine (rRight2_any t' r' _).mono ?_
    rw [hs]
    rintro e w1 ⟨rfl, hb⟩
    have HB := hid hb
    clear hb
    go_wp2_with fail
    go_ret
    rw [hc.out]
    refine ⟨rfl, (H.out.below (below_alloc1 _ _)).below HB.out, ?_⟩
    exact ⟨HB.out.os, HB.out.tape, HB.out.output, Nat.le_trans (below_alloc1 _ _).size HB.out.size, fun k hk _ => (HB.out.block k (Nat.lt_of_lt_of_le hk (below_alloc1 _ _).size)).trans ((below_alloc1 w _).block k hk)⟩
  · have hc := hid (show csee t t' r' = (0, max t t') by rw [csee, hs]; rfl)
    go_enter Tryd.func68, Tryd.ntmps68
    go_wp2_with fail
    refine (rRight2_any t' r' _).mono ?_
    rw [hs]
    rintro e w1 ⟨rfl, hb⟩
    have HB := hid hb
    have d1 : w1.cell? ⟨p, 1, none⟩ = some (.int .i64 t) := by simp [World.cell?, ((H.out.below (below_alloc1 _ _)).below hb).own]
    have df : w1.frozen? ⟨p, 1, none⟩ = false := by simp [World.frozen?, ((H.out.below (below_alloc1 _ _)).below hb).own]
    have d0 : w1.cell? ⟨w.heap.size, 0, none⟩ = some (.int .i64 t') := by
      rw [hb.cell (by simp)]; simp
    clear hb
    go_wp2_with fail
    go_region
    have hm : 0 ≤ max t t' ∧ max t t' ≤ 1099511627776 := by simp only [sright, decide_eq_true_eq] at hs; omega
    have HG := hid (show w.grownBy w1 (some p) from ⟨HB.out.os, HB.out.tape, HB.out.output, Nat.le_trans (below_alloc1 _ _).size HB.out.size, fun k hk _ => (HB.out.block k (Nat.lt_of_lt_of_le hk (below_alloc1 _ _).size)).trans ((below_alloc1 w _).block k hk)⟩)
    have HC := hid (((H.out.below (below_alloc1 _ _)).below HB.out).setT (max t t') hm)
    all_goals
      go_wp2_with fail
      all_goals
        go_ret
        rw [hc.out]
        have hC := HC.out.grown (row := none) (grown_drew (World.grownBy.refl _ _)) (by simp)
        first
        | rw [show max t t' = t' by omega] at hC ⊢
        | rw [show max t t' = t by omega] at hC ⊢
        refine ⟨rfl, hC, ?_⟩
        repeat' first | exact HG.out | refine grown_drew ?_ | refine grown_put ?_ _ _ _ (.inr rfl)


/-- No clock, or one that nobody made. -/
def NoClk (w : World) (v : Value) : Prop := v = .pointer none ∨ ∃ p, v = .pointer (some ⟨p, 0, none⟩) ∧ w.cell? ⟨p, 2, none⟩ = some (.bool false)
theorem NoClk.below {w w' : World} {v : Value} (h : NoClk w v) (hb : Below w.heap.size w w') : NoClk w' v := by
  rcases h with rfl | ⟨p, rfl, hp⟩
  · exact .inl rfl
  · exact .inr ⟨p, rfl, by rw [hb.cell (World.block_lt_of_cell? _ _ hp)]; exact hp⟩
theorem cnone_no (v : Value) (w : World) (h : NoClk w v) :
    Calls Tryd.prog 69 #[v] w fun e w' => e = .returned (.bool true) ∧ w = w' := by
  rcases h with rfl | ⟨p, rfl, hp⟩
  all_goals
    go_enter Tryd.func69, Tryd.ntmps69
    go_wp2_with fail
    go_ret
    exact ⟨rfl, rfl⟩
theorem Time2_no (v : Value) (w : World) (h : NoClk w v) :
    Calls Tryd.prog 22 #[v] w fun e w' => e = .returned (.int .i64 0) ∧ w = w' := by
  have H := hid h
  clear h
  go_enter Tryd.func22, Tryd.ntmps22
  go_wp2_with fail
  refine (cnone_no v _ H.out).mono ?_
  rintro e w1 ⟨rfl, rfl⟩
  go_wp2_with fail
  go_ret
  exact ⟨rfl, rfl⟩
theorem Next2_no (v : Value) (n : Int) (w : World) (h : NoClk w v) :
    Calls Tryd.prog 20 #[v, .int .i64 n] w fun e w' => e = .returned (.tuple #[stv 0 0, .int .i64 1]) ∧ Below w.heap.size w w' := by
  have H := hid h
  clear h
  go_enter Tryd.func20, Tryd.ntmps20
  go_wp2_with fail
  refine (cnone_no v _ (H.out.below (below_alloc1 _ _))).mono ?_
  rintro e w1 ⟨rfl, rfl⟩
  go_wp2_with fail
  (try simp only [Exit.inBlock, Exit.then]); refine bodyPost_ret (v := .tuple #[stv 0 0, .int .i64 1]) (by simp [results, show Tryd.f20.results = #[.cell 4 33, .tmp 5] from rfl, go_sem]) rfl ?_
  refine ⟨rfl, ?_⟩
  repeat' first | exact below_alloc1 _ _ | refine below_put ?_ _ _ _ (Nat.le_refl _)
theorem See2_no (v : Value) (t r : Int) (w : World) (h : NoClk w v) :
    Calls Tryd.prog 21 #[v, stv t r] w fun e w' => e = .returned (.int .i64 1) ∧ Below w.heap.size w w' := by
  have H := hid h
  clear h
  go_enter Tryd.func21, Tryd.ntmps21
  go_wp2_with fail
  refine (cnone_no v _ (H.out.below (below_alloc1 _ _))).mono ?_
  rintro e w1 ⟨rfl, rfl⟩
  go_wp2_with fail
  go_ret
  exact ⟨rfl, below_alloc1 _ _⟩
end Go.Proofs.YtdbghnfmhgjkaaaDoor
