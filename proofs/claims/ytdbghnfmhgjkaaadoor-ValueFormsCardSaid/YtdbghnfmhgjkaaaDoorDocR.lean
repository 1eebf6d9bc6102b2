/- The document's reader. -/
import Derived.Test.YtdbghnfmhgjkaaaDoorRfA
import Derived.Test.YtdbghnfmhgjkaaaDoorRdrB2
import Derived.Test.YtdbghnfmhgjkaaaDoorReg
import Derived.Test.YtdbghnfmhgjkaaaDoorSpB
namespace Go.Proofs.YtdbghnfmhgjkaaaDoor
open Go.RowKit Go.Dio
set_option linter.unusedVariables false
set_option linter.unusedSimpArgs false

/-- The document's reader stands in block rb. -/
structure DocAt (w : World) (base rb : Nat) (s : Rst) : Prop where
  lo : base ≤ rb
  own : ∃ A n c xs at_, w.heap[rb]? = some (.cells #[.slice A n c, .int .i64 ((at_ : Nat) : Int), .int .i64 s.2] 83 (0, 0)) ∧ IsB w A n c xs ∧ at_ ≤ n ∧ n ≤ 140737488355328 ∧ s.1 = xs.drop at_ ∧ ∀ a, A = some a → base ≤ a.block ∧ a.block ≠ rb
theorem DocAt.lt {w : World} {base rb : Nat} {s : Rst} (h : DocAt w base rb s) : rb < w.heap.size := by
  obtain ⟨A, n, c, xs, at_, h1, -⟩ := h.own
  exact (Array.getElem?_eq_some_iff.1 h1).1
theorem DocAt.move {w w' : World} {base rb : Nat} {s : Rst} (h : DocAt w base rb s) (hk : ∀ k, base ≤ k → k < w.heap.size → w'.heap[k]? = w.heap[k]?) : DocAt w' base rb s := by
  have hlt := h.lt
  obtain ⟨h1, A, n, c, xs, at_, h2, h3, h4, h5, h6, h7⟩ := h
  refine ⟨h1, A, n, c, xs, at_, by rw [hk rb h1 hlt]; exact h2, ?_, h4, h5, h6, h7⟩
  by_cases hn : bv xs = []
  · exact ⟨h3.len, h3.cap, h3.max, .inl hn⟩
  · exact h3.move fun a ha => by
      subst ha
      exact hk _ (h7 a rfl).1 (h3.cells.lt hn)
theorem DocAt.below {w w' : World} {base rb : Nat} {s : Rst} (h : DocAt w base rb s) (hb : Below w.heap.size w w') : DocAt w' base rb s := h.move fun k _ hk => hb.block k hk
theorem DocAt.drew {w : World} {base rb : Nat} {s : Rst} (h : DocAt w base rb s) : DocAt w.drew base rb s := h.move fun _ _ _ => rfl
theorem DocAt.cE {w : World} {base rb : Nat} {s : Rst} (h : DocAt w base rb s) : w.cell? ⟨rb, 2, none⟩ = some (.int .i64 s.2) := by
  obtain ⟨A, n, c, xs, at_, h1, -⟩ := h.own
  exact cell_of h1 2 rfl
theorem DocAt.fz {w : World} {base rb : Nat} {s : Rst} (h : DocAt w base rb s) (i : Nat) : w.frozen? ⟨rb, i, none⟩ = false := by
  obtain ⟨A, n, c, xs, at_, h1, -⟩ := h.own
  simp [World.frozen?, h1]
def DocOut (w : World) (base rb : Nat) (v : Value) (s : Rst) (e : Ending) (w' : World) : Prop := e = .returned v ∧ DocAt w' base rb s ∧ w.grownBy w' (some rb)
theorem DocAt.setE {w : World} {base rb : Nat} {s : Rst} (h : DocAt w base rb s) (e : Int) : DocAt (w.setCell ⟨rb, 2, none⟩ (.int .i64 e)) base rb (s.1, e) := by
  obtain ⟨h1, A, n, c, xs, at_, h2, h3, h4, h5, h6, h7⟩ := h
  exact ⟨h1, A, n, c, xs, at_, cellsT_set h2 2 (.int .i64 e), h3.move fun a ha => by rw [Below.heap_setCell _ _ _ _ (h7 a ha).2], h4, h5, h6, h7⟩
theorem DocAt.pass {w : World} {base rb : Nat} {e : Int} {A : Option Addr} {n c at_ : Nat} {xs : List UInt8} (h1 : base ≤ rb) (h2 : w.heap[rb]? = some (.cells #[.slice A n c, .int .i64 ((at_ : Nat) : Int), .int .i64 e] 83 (0, 0)))
    (h3 : IsB w A n c xs) (h5 : n ≤ 140737488355328) (h7 : ∀ a, A = some a → base ≤ a.block ∧ a.block ≠ rb) (a' : Nat) (h4 : a' ≤ n) {ys : List UInt8} (hy : ys = xs.drop a') : DocAt (w.setCell ⟨rb, 1, none⟩ (.int .i64 (a' : Int))) base rb (ys, e) :=
  ⟨h1, A, n, c, xs, a', cellsT_set h2 1 (.int .i64 a'), h3.move fun a ha => by rw [Below.heap_setCell _ _ _ _ (h7 a ha).2], h4, h5, hy, h7⟩

set_option maxRecDepth 100000 in
set_option maxHeartbeats 1000000 in
theorem dUpto_any (base rb : Nat) (s : Rst) (most : Int) (w : World) (h : DocAt w base rb s) :
    Calls Tryd.prog 89 #[.pointer (some ⟨rb, 0, none⟩), .int .i64 most] w (DocOut w base rb (.int .i64 (rUpto most s).1) (rUpto most s).2) := by
  by_cases he : s.2 ≠ 0
  · rw [rUpto_err most s he]
    have c2 := h.cE
    have hs : (s.2 == 0) = false := by simp [he]
    have hs' : (s.2 != 0) = true := by simp [he]
    have H := hid h
    clear h he
    go_enter Tryd.func89, Tryd.ntmps89
    go_wp2_with fail
    go_ret
    exact ⟨rfl, H.out, World.grownBy.refl _ _⟩
  · obtain ⟨xs0, e0⟩ := s
    obtain rfl : e0 = 0 := by simpa using he
    clear he
    have hH := hid h
    obtain ⟨h1, A, n, c, xs, at_, h2, h3, h4, h5, h6, h7⟩ := h
    dsimp only at h2 h6
    subst h6
    have c0 : w.cell? ⟨rb, 0, none⟩ = some (.slice A n c) := cell_of h2 0 rfl
    have c1 : w.cell? ⟨rb, 1, none⟩ = some (.int .i64 at_) := cell_of h2 1 rfl
    have c2 : w.cell? ⟨rb, 2, none⟩ = some (.int .i64 0) := cell_of h2 2 rfl
    have f1 := hH.out.fz 1
    have f2 := hH.out.fz 2
    rcases hnum : numL (xs.drop at_) with ⟨nn, k, e⟩
    obtain ⟨q1, q2, q3⟩ := rUpto_cases most (xs.drop at_) nn k e hnum
    have hle := fun h0 : e = 0 => numL_le (xs.drop at_) nn k (by rw [hnum, h0])
    rw [List.length_drop, h3.len] at hle
    have HNUM := hid hnum
    have H2 := hid h2; have H3 := hid h3; have H7 := hid h7
    have hlt := hH.out.lt
    clear h2 h3 h7 hnum
    go_enter Tryd.func89, Tryd.ntmps89
    go_wp2_with fail
    refine wp_region_held_drew (S := fun w' => w'.cell? ⟨rb, 0, none⟩ = some (.slice A n c) ∧ w'.cell? ⟨rb, 1, none⟩ = some (.int .i64 at_)) (by kernel_rfl) (by exact ⟨c0, c1⟩) (fun hHeld => ?_)
    refine takeL 0 (v := ?_) rfl (by kernel_rfl) (by kernel_rfl) (by kernel_rfl) (fun _ _ _ h => h) (by rfl) ?_ (by assumption) ?_
    case' refine_2 => (intro w hSw; (try dsimp only at hSw); go_simp; try with_reducible rfl)
    try simp only [Act.put, List.setIfInBounds_toArray, List.set_cons_zero, List.set_cons_succ]
    refine takeL 1 (v := ?_) rfl (by kernel_rfl) (by kernel_rfl) (by kernel_rfl) (fun _ _ _ h => h) (by rfl) ?_ (by assumption) ?_
    case' refine_2 => (intro w hSw; (try dsimp only at hSw); go_simp; try with_reducible rfl)
    try simp only [Act.put, List.setIfInBounds_toArray, List.set_cons_zero, List.set_cons_succ]
    refine takeL 2 (v := ?_) rfl (by kernel_rfl) (by kernel_rfl) (by kernel_rfl) (fun _ _ _ h => h) (by rfl) ?_ (by assumption) ?_
    case' refine_2 => (intro w hSw; (try dsimp only at hSw); go_simp; try with_reducible rfl)
    try simp only [Act.put, List.setIfInBounds_toArray, List.set_cons_zero, List.set_cons_succ]
    refine takeL 3 (v := ?_) rfl (by kernel_rfl) (by kernel_rfl) (by kernel_rfl) (fun _ _ _ h => h) (by rfl) ?_ (by assumption) ?_
    case' refine_2 => (intro w hSw; (try dsimp only at hSw); go_simp; try with_reducible rfl)
    try simp only [Act.put, List.setIfInBounds_toArray, List.set_cons_zero, List.set_cons_succ]
    refine takeL 4 (v := ?_) rfl (by kernel_rfl) (by kernel_rfl) (by kernel_rfl) (fun _ _ _ h => h) (by rfl) ?_ (by assumption) ?_
    case' refine_2 => (intro w hSw; (try dsimp only at hSw); go_simp; try with_reducible rfl)
    try simp only [Act.put, List.setIfInBounds_toArray, List.set_cons_zero, List.set_cons_succ]
    refine takeL 5 (v := ?_) rfl (by kernel_rfl) (by kernel_rfl) (by kernel_rfl) (fun _ _ _ h => h) (by rfl) ?_ (by assumption) ?_
    case' refine_2 => (intro w hSw; (try dsimp only at hSw); go_simp; try with_reducible rfl)
    try simp only [Act.put, List.setIfInBounds_toArray, List.set_cons_zero, List.set_cons_succ]
    refine takeL 6 (v := ?_) rfl (by kernel_rfl) (by kernel_rfl) (by kernel_rfl) (fun _ _ _ h => h) (by rfl) ?_ (by assumption) ?_
    case' refine_2 => (intro w hSw; (try dsimp only at hSw); go_simp; try with_reducible rfl)
    try simp only [Act.put, List.setIfInBounds_toArray, List.set_cons_zero, List.set_cons_succ]
    refine takeL 7 (v := ?_) rfl (by kernel_rfl) (by kernel_rfl) (by kernel_rfl) (fun _ _ _ h => h) (by rfl) ?_ (by assumption) ?_
    case' refine_2 => (intro w hSw; (try dsimp only at hSw); go_simp; try with_reducible rfl)
    try simp only [Act.put, List.setIfInBounds_toArray, List.set_cons_zero, List.set_cons_succ]
    refine soloL 8 rfl (by kernel_rfl) (fun K hK => ?_)
    go_simp
    go_at_call 111
    have H3D : IsB w.drew A n c xs := H3.out.move fun _ _ => rfl
    refine (rnumber_any A n c xs at_ _ H3D (by omega)).mono ?_
    clear H3D
    rw [HNUM.out]
    rintro e w' ⟨rfl, hw⟩
    have hw := hw.symm; subst hw
    go_wp2_with fail
    refine hK.out _ _ hHeld (fun hHeld => ?_)
    clear hK K
    refine takeL 9 (v := ?_) rfl (by kernel_rfl) (by kernel_rfl) (by kernel_rfl) (fun _ _ _ h => h) (by rfl) ?_ (by assumption) ?_
    case' refine_2 => (intro w hSw; (try dsimp only at hSw); go_simp; try with_reducible rfl)
    try simp only [Act.put, List.setIfInBounds_toArray, List.set_cons_zero, List.set_cons_succ]
    refine takeL 10 (v := ?_) rfl (by kernel_rfl) (by kernel_rfl) (by kernel_rfl) (fun _ _ _ h => h) (by rfl) ?_ (by assumption) ?_
    case' refine_2 => (intro w hSw; (try dsimp only at hSw); go_simp; try with_reducible rfl)
    try simp only [Act.put, List.setIfInBounds_toArray, List.set_cons_zero, List.set_cons_succ]
    refine takeL 11 (v := ?_) rfl (by kernel_rfl) (by kernel_rfl) (by kernel_rfl) (fun _ _ _ h => h) (by rfl) ?_ (by assumption) ?_
    case' refine_2 => (intro w hSw; (try dsimp only at hSw); go_simp; try with_reducible rfl)
    try simp only [Act.put, List.setIfInBounds_toArray, List.set_cons_zero, List.set_cons_succ]
    refine takeL 12 (v := ?_) rfl (by kernel_rfl) (by kernel_rfl) (by kernel_rfl) (fun _ _ _ h => h) (by rfl) ?_ (by assumption) ?_
    case' refine_2 => (intro w hSw; (try dsimp only at hSw); go_simp; try with_reducible rfl)
    try simp only [Act.put, List.setIfInBounds_toArray, List.set_cons_zero, List.set_cons_succ]
    refine takeL 13 (v := ?_) rfl (by kernel_rfl) (by kernel_rfl) (by kernel_rfl) (fun _ _ _ h => h) (by rfl) ?_ (by assumption) ?_
    case' refine_2 => (intro w hSw; (try dsimp only at hSw); go_simp; try with_reducible rfl)
    try simp only [Act.put, List.setIfInBounds_toArray, List.set_cons_zero, List.set_cons_succ]
    refine takeL 14 (v := ?_) rfl (by kernel_rfl) (by kernel_rfl) (by kernel_rfl) (fun _ _ _ h => h) (by rfl) ?_ (by assumption) ?_
    case' refine_2 => (intro w hSw; (try dsimp only at hSw); go_simp; try with_reducible rfl)
    try simp only [Act.put, List.setIfInBounds_toArray, List.set_cons_zero, List.set_cons_succ]
    refine takeL 15 (v := ?_) rfl (by kernel_rfl) (by kernel_rfl) (by kernel_rfl) (fun _ _ _ h => h) (by rfl) ?_ (by assumption) ?_
    case' refine_2 => (intro w hSw; (try dsimp only at hSw); go_simp; try with_reducible rfl)
    try simp only [Act.put, List.setIfInBounds_toArray, List.set_cons_zero, List.set_cons_succ]
    refine wpAnyH_done (by kernel_rfl) ?_ _
    by_cases ce : e = 0
    · subst ce
      obtain ⟨hk1, hk2, hk3⟩ := hle rfl
      clear hle q1
      by_cases cm : most < (nn : Int)
      · have F := hid (q2 rfl cm); clear q2 q3
        go_wp2_with fail
        go_ret
        rw [F.out]
        exact ⟨rfl, hH.out.drew.setE 30, grown_trans (grown_drew (World.grownBy.refl w (some rb))) (grown_set w.drew rb 2 _)⟩
      · have cm' : (nn : Int) ≤ most := by omega
        have F := hid (q3 rfl cm'); clear q2 q3
        go_wp2_with fail
        go_ret
        rw [F.out]
        refine ⟨rfl, DocAt.pass (w := w.drew) h1 H2.out (H3.out.move fun _ _ => rfl) h5 H7.out (at_ + k) (by omega) (by rw [List.drop_drop]), grown_trans (grown_drew (World.grownBy.refl w (some rb))) (grown_set w.drew rb 1 _)⟩
    · have F := hid (q1 ce); clear q1 q2 q3 hle
      have he : ((e : Int) == 0) = false := by simp; omega
      have he' : ((e : Int) != 0) = true := by rw [bne_iff_ne]; omega
      clear ce
      go_wp2_with fail
      go_ret
      rw [F.out]
      exact ⟨rfl, hH.out.drew.setE _, grown_trans (grown_drew (World.grownBy.refl w (some rb))) (grown_set w.drew rb 2 _)⟩
end Go.Proofs.YtdbghnfmhgjkaaaDoor
