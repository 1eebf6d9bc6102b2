/- The document's reader: Text, Fail; the document's Put, Print of a value. -/
import Derived.Test.YtdbghnfmhgjkaaaDoorDocR2
import Derived.Test.YtdbghnfmhgjkaaaDoorStF4
import Derived.Test.YtdbghnfmhgjkaaaDoorStF1
import Derived.Test.YtdbghnfmhgjkaaaDoorVbA
import Derived.Test.YtdbghnfmhgjkaaaDoorVbB
import Derived.Test.YtdbghnfmhgjkaaaDoorVcA
namespace Go.Proofs.YtdbghnfmhgjkaaaDoor
open Go.RowKit Go.Dio
set_option linter.unusedVariables false
set_option linter.unusedSimpArgs false

theorem dFail_r (base rb : Nat) (s : Rst) (e : Int) (w : World) (h : DocAt w base rb s) :
    Calls Tryd.prog 102 #[.pointer (some ⟨rb, 0, none⟩), .int .i64 e] w (DocOut w base rb (.tuple #[]) (rFail s e)) := by
  have H := hid h
  have c2 := h.cE
  have f2 := h.fz 2
  by_cases he : s.2 = 0
  · have HE := hid (show rFail s e = (s.1, e) by rw [rFail, if_pos he])
    rw [he] at c2
    clear h he
    go_enter Tryd.func102, Tryd.ntmps102
    go_wp2_with fail
    simp only [bodyPost]
    rw [HE.out]
    exact ⟨trivial, .tuple #[], by simp [results, show Tryd.f102.results = #[] from rfl, go_sem], rfl, H.out.setE e, grown_set w rb 2 _⟩
  · have hs : (s.2 == 0) = false := by simp [he]
    have HE := hid (show rFail s e = s by rw [rFail, if_neg he])
    clear h he
    go_enter Tryd.func102, Tryd.ntmps102
    go_wp2_with fail
    simp only [bodyPost]
    rw [HE.out]
    exact ⟨trivial, .tuple #[], by simp [results, show Tryd.f102.results = #[] from rfl, go_sem], rfl, H.out, World.grownBy.refl _ _⟩

set_option maxRecDepth 100000 in
set_option maxHeartbeats 4000000 in
theorem dText_r (base rb : Nat) (s : Rst) (w : World) (h : DocAt w base rb s) :
    Calls Tryd.prog 101 #[.pointer (some ⟨rb, 0, none⟩)] w (DocOut w base rb (.string (mkS (rText s).1)) (rText s).2) := by
  by_cases he : s.2 ≠ 0
  · rw [rText_err s he]
    have c2 := h.cE
    have hs : (s.2 == 0) = false := by simp [he]
    have hs' : (s.2 != 0) = true := by simp [he]
    have H := hid h
    clear h he
    go_enter Tryd.func101, Tryd.ntmps101
    go_wp2_with fail
    go_ret
    exact ⟨rfl, H.out, World.grownBy.refl _ _⟩
  · obtain ⟨xs0, e0⟩ := s
    obtain rfl : e0 = 0 := by simpa using he
    clear he
    have hH := hid h
    obtain ⟨h1, A, n, c, xs, at_, h2, h3, h4, h5, h6, h7⟩ := h
    dsimp only at h2 h6
    subst h6
    have c0 : w.cell? ⟨rb, 0, none⟩ = some (.slice A n c) := cell_of h2 0 rfl
    have c1 : w.cell? ⟨rb, 1, none⟩ = some (.int .i64 at_) := cell_of h2 1 rfl
    have c2 : w.cell? ⟨rb, 2, none⟩ = some (.int .i64 0) := cell_of h2 2 rfl
    have f1 := hH.out.fz 1
    have f2 := hH.out.fz 2
    rcases hnum : numL (xs.drop at_) with ⟨nn, k, e⟩
    obtain ⟨q1, q2, q3, q4⟩ := rText_cases (xs.drop at_) nn k e hnum
    have hle := fun h0 : e = 0 => numL_le (xs.drop at_) nn k (by rw [hnum, h0])
    obtain ⟨L, hL⟩ : ∃ L, L = n - at_ := ⟨_, rfl⟩
    have hdl : (xs.drop at_).length = L := by rw [List.length_drop, h3.len, hL]
    rw [hdl] at hle q3 q4
    have HNUM := hid hnum
    have H2 := hid h2; have H3 := hid h3; have H7 := hid h7
    have HDL := hid hdl
    have hlt := hH.out.lt
    clear h2 h3 h7 hnum hdl
    go_enter Tryd.func101, Tryd.ntmps101
    go_wp2_with fail
    refine wp_region_held_drew (S := fun w' => w'.cell? ⟨rb, 0, none⟩ = some (.slice A n c) ∧ w'.cell? ⟨rb, 1, none⟩ = some (.int .i64 at_)) (by kernel_rfl) (by exact ⟨c0, c1⟩) (fun hHeld => ?_)
    refine takeL 0 (v := ?_) rfl (by kernel_rfl) (by kernel_rfl) (by kernel_rfl) (fun _ _ _ h => h) (by rfl) ?_ (by assumption) ?_
    case' refine_2 => (intro w hSw; (try dsimp only at hSw); go_simp; try with_reducible rfl)
    try simp only [Act.put, List.setIfInBounds_toArray, List.set_cons_zero, List.set_cons_succ]
    refine takeL 1 (v := ?_) rfl (by kernel_rfl) (by kernel_rfl) (by kernel_rfl) (fun _ _ _ h => h) (by rfl) ?_ (by assumption) ?_
    case' refine_2 => (intro w hSw; (try dsimp only at hSw); go_simp; try with_reducible rfl)
    try simp only [Act.put, List.setIfInBounds_toArray, List.set_cons_zero, List.set_cons_succ]
    refine takeL 2 (v := ?_) rfl (by kernel_rfl) (by kernel_rfl) (by kernel_rfl) (fun _ _ _ h => h) (by rfl) ?_ (by assumption) ?_
    case' refine_2 => (intro w hSw; (try dsimp only at hSw); go_simp; try with_reducible rfl)
    try simp only [Act.put, List.setIfInBounds_toArray, List.set_cons_zero, List.set_cons_succ]
    refine takeL 3 (v := ?_) rfl (by kernel_rfl) (by kernel_rfl) (by kernel_rfl) (fun _ _ _ h => h) (by rfl) ?_ (by assumption) ?_
    case' refine_2 => (intro w hSw; (try dsimp only at hSw); go_simp; try with_reducible rfl)
    try simp only [Act.put, List.setIfInBounds_toArray, List.set_cons_zero, List.set_cons_succ]
    refine takeL 4 (v := ?_) rfl (by kernel_rfl) (by kernel_rfl) (by kernel_rfl) (fun _ _ _ h => h) (by rfl) ?_ (by assumption) ?_
    case' refine_2 => (intro w hSw; (try dsimp only at hSw); go_simp; try with_reducible rfl)
    try simp only [Act.put, List.setIfInBounds_toArray, List.set_cons_zero, List.set_cons_succ]
    refine takeL 5 (v := ?_) rfl (by kernel_rfl) (by kernel_rfl) (by kernel_rfl) (fun _ _ _ h => h) (by rfl) ?_ (by assumption) ?_
    case' refine_2 => (intro w hSw; (try dsimp only at hSw); go_simp; try with_reducible rfl)
    try simp only [Act.put, List.setIfInBounds_toArray, List.set_cons_zero, List.set_cons_succ]
    refine takeL 6 (v := ?_) rfl (by kernel_rfl) (by kernel_rfl) (by kernel_rfl) (fun _ _ _ h => h) (by rfl) ?_ (by assumption) ?_
    case' refine_2 => (intro w hSw; (try dsimp only at hSw); go_simp; try with_reducible rfl)
    try simp only [Act.put, List.setIfInBounds_toArray, List.set_cons_zero, List.set_cons_succ]
    refine takeL 7 (v := ?_) rfl (by kernel_rfl) (by kernel_rfl) (by kernel_rfl) (fun _ _ _ h => h) (by rfl) ?_ (by assumption) ?_
    case' refine_2 => (intro w hSw; (try dsimp only at hSw); go_simp; try with_reducible rfl)
    try simp only [Act.put, List.setIfInBounds_toArray, List.set_cons_zero, List.set_cons_succ]
    refine soloL 8 rfl (by kernel_rfl) (fun K hK => ?_)
    go_simp
    go_at_call 111
    have H3D : IsB w.drew A n c xs := H3.out.move fun _ _ => rfl
    refine (rnumber_any A n c xs at_ _ H3D (by omega)).mono ?_
    clear H3D
    rw [HNUM.out]
    rintro e w' ⟨rfl, hw⟩
    have hw := hw.symm; subst hw
    go_wp2_with fail
    refine hK.out _ _ hHeld (fun hHeld => ?_)
    clear hK K
    refine takeL 9 (v := ?_) rfl (by kernel_rfl) (by kernel_rfl) (by kernel_rfl) (fun _ _ _ h => h) (by rfl) ?_ (by assumption) ?_
    case' refine_2 => (intro w hSw; (try dsimp only at hSw); go_simp; try with_reducible rfl)
    try simp only [Act.put, List.setIfInBounds_toArray, List.set_cons_zero, List.set_cons_succ]
    refine takeL 10 (v := ?_) rfl (by kernel_rfl) (by kernel_rfl) (by kernel_rfl) (fun _ _ _ h => h) (by rfl) ?_ (by assumption) ?_
    case' refine_2 => (intro w hSw; (try dsimp only at hSw); go_simp; try with_reducible rfl)
    try simp only [Act.put, List.setIfInBounds_toArray, List.set_cons_zero, List.set_cons_succ]
    refine takeL 11 (v := ?_) rfl (by kernel_rfl) (by kernel_rfl) (by kernel_rfl) (fun _ _ _ h => h) (by rfl) ?_ (by assumption) ?_
    case' refine_2 => (intro w hSw; (try dsimp only at hSw); go_simp; try with_reducible rfl)
    try simp only [Act.put, List.setIfInBounds_toArray, List.set_cons_zero, List.set_cons_succ]
    refine takeL 12 (v := ?_) rfl (by kernel_rfl) (by kernel_rfl) (by kernel_rfl) (fun _ _ _ h => h) (by rfl) ?_ (by assumption) ?_
    case' refine_2 => (intro w hSw; (try dsimp only at hSw); go_simp; try with_reducible rfl)
    try simp only [Act.put, List.setIfInBounds_toArray, List.set_cons_zero, List.set_cons_succ]
    refine takeL 13 (v := ?_) rfl (by kernel_rfl) (by kernel_rfl) (by kernel_rfl) (fun _ _ _ h => h) (by rfl) ?_ (by assumption) ?_
    case' refine_2 => (intro w hSw; (try dsimp only at hSw); go_simp; try with_reducible rfl)
    try simp only [Act.put, List.setIfInBounds_toArray, List.set_cons_zero, List.set_cons_succ]
    refine takeL 14 (v := ?_) rfl (by kernel_rfl) (by kernel_rfl) (by kernel_rfl) (fun _ _ _ h => h) (by rfl) ?_ (by assumption) ?_
    case' refine_2 => (intro w hSw; (try dsimp only at hSw); go_simp; try with_reducible rfl)
    try simp only [Act.put, List.setIfInBounds_toArray, List.set_cons_zero, List.set_cons_succ]
    refine takeL 15 (v := ?_) rfl (by kernel_rfl) (by kernel_rfl) (by kernel_rfl) (fun _ _ _ h => h) (by rfl) ?_ (by assumption) ?_
    case' refine_2 => (intro w hSw; (try dsimp only at hSw); go_simp; try with_reducible rfl)
    try simp only [Act.put, List.setIfInBounds_toArray, List.set_cons_zero, List.set_cons_succ]
    refine wpAnyH_done (by kernel_rfl) ?_ _
    clear hHeld
    by_cases ce : e = 0
    · subst ce
      obtain ⟨hk1, hk2, hk3⟩ := hle rfl
      clear hle q1
      by_cases cm : 1048576 < nn
      · have F := hid (q2 rfl cm); clear q2 q3 q4
        go_wp2_with fail
        go_ret
        rw [F.out]
        exact ⟨rfl, hH.out.drew.setE 21, grown_trans (grown_drew (World.grownBy.refl w (some rb))) (grown_set w.drew rb 2 _)⟩
      · have cm' : nn ≤ 1048576 := by omega
        clear q2
        by_cases c3 : L - k < nn
        · have F := hid (q3 rfl cm' c3); clear q3 q4
          have c3x : (L : Int) - k < nn := by omega
          go_wp2_with fail
          refine (dLeft_r base rb _ _ hH.out.drew).mono ?_
          rintro e w' ⟨rfl, hd⟩
          dsimp only
          rw [HDL.out]
          have hb := hd.below
          have HD := hid (hH.out.drew.below hb)
          have HG := hid (grown_then (grown_drew (World.grownBy.refl w (some rb))) hb)
          have f2' := HD.out.fz 2
          have c2' := HD.out.cE
          clear hd hb
          go_wp2_with fail
          go_ret
          rw [F.out]
          exact ⟨rfl, HD.out.setE 20, grown_trans HG.out (grown_set _ rb 2 _)⟩
        · have c3' : nn ≤ L - k := by omega
          have F := hid (q4 rfl cm' c3'); clear q3 q4
          have c3x : ¬ (L : Int) - k < nn := by omega
          go_wp2_with fail
          refine (dLeft_r base rb _ _ hH.out.drew).mono ?_
          rintro e w' ⟨rfl, hd⟩
          dsimp only
          rw [HDL.out]
          have hb := hd.below
          have B1 := hid (below_then ((Below.refl w.heap.size w).drew) hb)
          have HG := hid (grown_then (grown_drew (World.grownBy.refl w (some rb))) hb)
          clear hd hb
          have hcut2 := run_cut_lh (P := Tryd.prog) 55 5 Tryd.underlying55 (info_parts info_u8).choose_spec.1 (info_parts info_u8).choose_spec.2.2.1 A n c .i64 .i64 ((at_ : Int) + k) ((at_ : Int) + k + nn) (by omega) (by omega) (by have := H3.out.cap; omega)
          rw [show ((at_ : Int) + k + nn).toNat = at_ + k + nn by omega, show ((at_ : Int) + k).toNat = at_ + k by omega, show at_ + k + nn - (at_ + k) = nn by omega] at hcut2
          have hd2 := hid (H3.out.cut (at_ + k) nn (by omega))
          generalize cutA A c (at_ + k) 1 = A3 at *
          generalize c - (at_ + k) = c3 at *
          have hw1 : IntKind.i64.wrap ((at_ : Int) + k) = (at_ : Int) + k := by simp only [IntKind.wrap_i64]; omega
          have hw2 : IntKind.i64.wrap ((at_ : Int) + k + nn) = (at_ : Int) + k + nn := by simp only [IntKind.wrap_i64]; omega
          go_wp2_with fail
          have hHeld0 := B1.out.drew
          refine wp_region_held_drew (S := fun w' => Below w.heap.size w w') (by kernel_rfl) (by exact hHeld0) (fun hHeld => ?_)
          clear hHeld0
          refine takeL 0 (v := ?_) rfl (by kernel_rfl) (by kernel_rfl) (by kernel_rfl) (fun _ _ _ h => h) (by rfl) ?_ (by assumption) ?_
          case' refine_2 => (intro w hSw; (try dsimp only at hSw); have y := (hSw.block rb hlt).trans H2.out; have y0 := cell_of y 0 rfl; have y1 := cell_of y 1 rfl; clear y; go_simp; try with_reducible rfl)
          try simp only [Act.put, List.setIfInBounds_toArray, List.set_cons_zero, List.set_cons_succ]
          refine takeL 1 (v := ?_) rfl (by kernel_rfl) (by kernel_rfl) (by kernel_rfl) (fun _ _ _ h => h) (by rfl) ?_ (by assumption) ?_
          case' refine_2 => (intro w hSw; (try dsimp only at hSw); have y := (hSw.block rb hlt).trans H2.out; have y0 := cell_of y 0 rfl; have y1 := cell_of y 1 rfl; clear y; go_simp; try with_reducible rfl)
          try simp only [Act.put, List.setIfInBounds_toArray, List.set_cons_zero, List.set_cons_succ]
          refine takeL 2 (v := ?_) rfl (by kernel_rfl) (by kernel_rfl) (by kernel_rfl) (fun _ _ _ h => h) (by rfl) ?_ (by assumption) ?_
          case' refine_2 => (intro w hSw; (try dsimp only at hSw); have y := (hSw.block rb hlt).trans H2.out; have y0 := cell_of y 0 rfl; have y1 := cell_of y 1 rfl; clear y; go_simp; try with_reducible rfl)
          try simp only [Act.put, List.setIfInBounds_toArray, List.set_cons_zero, List.set_cons_succ]
          refine takeL 3 (v := ?_) rfl (by kernel_rfl) (by kernel_rfl) (by kernel_rfl) (fun _ _ _ h => h) (by rfl) ?_ (by assumption) ?_
          case' refine_2 => (intro w hSw; (try dsimp only at hSw); have y := (hSw.block rb hlt).trans H2.out; have y0 := cell_of y 0 rfl; have y1 := cell_of y 1 rfl; clear y; go_simp; try with_reducible rfl)
          try simp only [Act.put, List.setIfInBounds_toArray, List.set_cons_zero, List.set_cons_succ]
          refine takeL 4 (v := ?_) rfl (by kernel_rfl) (by kernel_rfl) (by kernel_rfl) (fun _ _ _ h => h) (by rfl) ?_ (by assumption) ?_
          case' refine_2 => (intro w hSw; (try dsimp only at hSw); have y := (hSw.block rb hlt).trans H2.out; have y0 := cell_of y 0 rfl; have y1 := cell_of y 1 rfl; clear y; go_simp; try with_reducible rfl)
          try simp only [Act.put, List.setIfInBounds_toArray, List.set_cons_zero, List.set_cons_succ]
          refine takeL 5 (v := ?_) rfl (by kernel_rfl) (by kernel_rfl) (by kernel_rfl) (fun _ _ _ h => h) (by rfl) ?_ (by assumption) ?_
          case' refine_2 => (intro w hSw; (try dsimp only at hSw); have y := (hSw.block rb hlt).trans H2.out; have y0 := cell_of y 0 rfl; have y1 := cell_of y 1 rfl; clear y; go_simp; try with_reducible rfl)
          try simp only [Act.put, List.setIfInBounds_toArray, List.set_cons_zero, List.set_cons_succ]
          refine takeL 6 (v := ?_) rfl (by kernel_rfl) (by kernel_rfl) (by kernel_rfl) (fun _ _ _ h => h) (by rfl) ?_ (by assumption) ?_
          case' refine_2 => (intro w hSw; (try dsimp only at hSw); have y := (hSw.block rb hlt).trans H2.out; have y0 := cell_of y 0 rfl; have y1 := cell_of y 1 rfl; clear y; go_simp; try with_reducible rfl)
          try simp only [Act.put, List.setIfInBounds_toArray, List.set_cons_zero, List.set_cons_succ]
          refine takeL 7 (v := ?_) rfl (by kernel_rfl) (by kernel_rfl) (by kernel_rfl) (fun _ _ _ h => h) (by rfl) ?_ (by assumption) ?_
          case' refine_2 => (intro w hSw; (try dsimp only at hSw); have y := (hSw.block rb hlt).trans H2.out; have y0 := cell_of y 0 rfl; have y1 := cell_of y 1 rfl; clear y; go_simp; try with_reducible rfl)
          try simp only [Act.put, List.setIfInBounds_toArray, List.set_cons_zero, List.set_cons_succ]
          refine takeL 8 (v := ?_) rfl (by kernel_rfl) (by kernel_rfl) (by kernel_rfl) (fun _ _ _ h => h) (by rfl) ?_ (by assumption) ?_
          case' refine_2 => (intro w hSw; (try dsimp only at hSw); have y := (hSw.block rb hlt).trans H2.out; have y0 := cell_of y 0 rfl; have y1 := cell_of y 1 rfl; clear y; go_simp; try with_reducible rfl)
          try simp only [Act.put, List.setIfInBounds_toArray, List.set_cons_zero, List.set_cons_succ]
          refine takeL 9 (v := ?_) rfl (by kernel_rfl) (by kernel_rfl) (by kernel_rfl) (fun _ _ _ h => h) (by rfl) ?_ (by assumption) ?_
          case' refine_2 => (intro w hSw; (try dsimp only at hSw); have y := (hSw.block rb hlt).trans H2.out; have y0 := cell_of y 0 rfl; have y1 := cell_of y 1 rfl; clear y; go_simp; try with_reducible rfl)
          try simp only [Act.put, List.setIfInBounds_toArray, List.set_cons_zero, List.set_cons_succ]
          refine takeL 10 (v := ?_) rfl (by kernel_rfl) (by kernel_rfl) (by kernel_rfl) (fun _ _ _ h => h) (by rfl) ?_ (by assumption) ?_
          case' refine_2 => (intro w hSw; (try dsimp only at hSw); have y := (hSw.block rb hlt).trans H2.out; have y0 := cell_of y 0 rfl; have y1 := cell_of y 1 rfl; clear y; go_simp; try with_reducible rfl)
          try simp only [Act.put, List.setIfInBounds_toArray, List.set_cons_zero, List.set_cons_succ]
          refine takeL 11 (v := ?_) rfl (by kernel_rfl) (by kernel_rfl) (by kernel_rfl) (fun _ _ _ h => h) (by rfl) ?_ (by assumption) ?_
          case' refine_2 => (intro w hSw; (try dsimp only at hSw); have y := (hSw.block rb hlt).trans H2.out; have y0 := cell_of y 0 rfl; have y1 := cell_of y 1 rfl; clear y; go_simp; try with_reducible rfl)
          try simp only [Act.put, List.setIfInBounds_toArray, List.set_cons_zero, List.set_cons_succ]
          refine takeL 12 (v := ?_) rfl (by kernel_rfl) (by kernel_rfl) (by kernel_rfl) (fun _ _ _ h => h) (by rfl) ?_ (by assumption) ?_
          case' refine_2 => (intro w hSw; (try dsimp only at hSw); have y := (hSw.block rb hlt).trans H2.out; have y0 := cell_of y 0 rfl; have y1 := cell_of y 1 rfl; clear y; go_simp; try with_reducible rfl)
          try simp only [Act.put, List.setIfInBounds_toArray, List.set_cons_zero, List.set_cons_succ]
          refine takeL 13 (v := ?_) rfl (by kernel_rfl) (by kernel_rfl) (by kernel_rfl) (fun _ _ _ h => h) (by rfl) ?_ (by assumption) ?_
          case' refine_2 => (intro w hSw; (try dsimp only at hSw); have y := (hSw.block rb hlt).trans H2.out; have y0 := cell_of y 0 rfl; have y1 := cell_of y 1 rfl; clear y; go_simp; try with_reducible rfl)
          try simp only [Act.put, List.setIfInBounds_toArray, List.set_cons_zero, List.set_cons_succ]
          refine takeL 14 (v := ?_) rfl (by kernel_rfl) (by kernel_rfl) (by kernel_rfl) (fun _ _ _ h => h) (by rfl) ?_ (by assumption) ?_
          case' refine_2 => (intro w hSw; (try dsimp only at hSw); have y := (hSw.block rb hlt).trans H2.out; have y0 := cell_of y 0 rfl; have y1 := cell_of y 1 rfl; clear y; go_simp; try with_reducible rfl)
          try simp only [Act.put, List.setIfInBounds_toArray, List.set_cons_zero, List.set_cons_succ]
          refine takeL 15 (v := ?_) rfl (by kernel_rfl) (by kernel_rfl) (by kernel_rfl) (fun _ _ _ h => h) (by rfl) ?_ (by assumption) ?_
          case' refine_2 => (intro w hSw; (try dsimp only at hSw); have y := (hSw.block rb hlt).trans H2.out; have y0 := cell_of y 0 rfl; have y1 := cell_of y 1 rfl; clear y; go_simp; try with_reducible rfl)
          try simp only [Act.put, List.setIfInBounds_toArray, List.set_cons_zero, List.set_cons_succ]
          refine takeL 16 (v := ?_) rfl (by kernel_rfl) (by kernel_rfl) (by kernel_rfl) (fun _ _ _ h => h) (by rfl) ?_ (by assumption) ?_
          case' refine_2 => (intro w hSw; (try dsimp only at hSw); have y := (hSw.block rb hlt).trans H2.out; have y0 := cell_of y 0 rfl; have y1 := cell_of y 1 rfl; clear y; go_simp; try with_reducible rfl)
          try simp only [Act.put, List.setIfInBounds_toArray, List.set_cons_zero, List.set_cons_succ]
          refine takeL 17 (v := ?_) rfl (by kernel_rfl) (by kernel_rfl) (by kernel_rfl) (fun _ _ _ h => h) (by rfl) ?_ (by assumption) ?_
          case' refine_2 => (intro w hSw; (try dsimp only at hSw); have y := (hSw.block rb hlt).trans H2.out; have y0 := cell_of y 0 rfl; have y1 := cell_of y 1 rfl; clear y; go_simp; try with_reducible rfl)
          try simp only [Act.put, List.setIfInBounds_toArray, List.set_cons_zero, List.set_cons_succ]
          refine takeL 18 (v := ?_) rfl (by kernel_rfl) (by kernel_rfl) (by kernel_rfl) (fun _ _ _ h => h) (by rfl) ?_ (by assumption) ?_
          case' refine_2 => (intro w hSw; (try dsimp only at hSw); have y := (hSw.block rb hlt).trans H2.out; have y0 := cell_of y 0 rfl; have y1 := cell_of y 1 rfl; clear y; go_simp; try with_reducible rfl)
          try simp only [Act.put, List.setIfInBounds_toArray, List.set_cons_zero, List.set_cons_succ]
          refine takeL 19 (v := ?_) rfl (by kernel_rfl) (by kernel_rfl) (by kernel_rfl) (fun _ _ _ h => h) (by rfl) ?_ (by assumption) ?_
          case' refine_2 => (intro w hSw; (try dsimp only at hSw); have y0 := run_string (P := Tryd.prog) 55 9 5 Tryd.underlying55 Tryd.underlying5 Tryd.underlying9 (hd2.out.below hSw); go_simp; try with_reducible rfl)
          try simp only [Act.put, List.setIfInBounds_toArray, List.set_cons_zero, List.set_cons_succ]
          refine takeL 20 (v := ?_) rfl (by kernel_rfl) (by kernel_rfl) (by kernel_rfl) (fun _ _ _ h => h) (by rfl) ?_ (by assumption) ?_
          case' refine_2 => (intro w hSw; (try dsimp only at hSw); go_simp; try with_reducible rfl)
          try simp only [Act.put, List.setIfInBounds_toArray, List.set_cons_zero, List.set_cons_succ]
          refine wpAnyH_done (by kernel_rfl) ?_ _
          have y := (hHeld.block rb hlt).trans H2.out
          have y0 := cell_of y 0 rfl; have y1 := cell_of y 1 rfl
          have y2 : (w'.drew).frozen? ⟨rb, 1, none⟩ = false := by simp [World.frozen?, y]
          have Y := hid y
          have HX := hid (H3.out.below hHeld)
          clear y hHeld
          go_wp2_with fail
          go_ret
          rw [F.out, List.drop_drop]
          exact ⟨rfl, DocAt.pass (w := w'.drew) h1 Y.out HX.out h5 H7.out (at_ + k + nn) (by omega) (by rw [List.drop_drop, Nat.add_assoc]), grown_trans (grown_drew HG.out) (grown_set _ rb 1 _)⟩
    · have F := hid (q1 ce); clear q1 q2 q3 q4 hle
      have he : ((e : Int) == 0) = false := by simp; omega
      have he' : ((e : Int) != 0) = true := by rw [bne_iff_ne]; omega
      clear ce
      go_wp2_with fail
      go_ret
      rw [F.out]
      exact ⟨rfl, hH.out.drew.setE _, grown_trans (grown_drew (World.grownBy.refl w (some rb))) (grown_set w.drew rb 2 _)⟩
end Go.Proofs.YtdbghnfmhgjkaaaDoor
