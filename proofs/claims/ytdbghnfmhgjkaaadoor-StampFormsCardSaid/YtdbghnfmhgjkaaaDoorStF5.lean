/- The last of a list of stamps: the program's, the document's. -/
import Derived.Test.YtdbghnfmhgjkaaaDoorStF4
namespace Go.Proofs.YtdbghnfmhgjkaaaDoor
open Go.RowKit Go.Dio
set_option linter.unusedVariables false
set_option linter.unusedSimpArgs false

theorem SAt.set {w : World} {b : Nat} {t r : Int} (h : SAt w b t r) (t' r' : Int) : SAt ((w.setCell ⟨b, 0, none⟩ (.int .i64 t')).setCell ⟨b, 1, none⟩ (.int .i64 r')) b t' r' := ⟨by simp [World.setCell, Array.getElem?_modify, h.own]⟩
theorem SAt.off {w : World} {b : Nat} {t r : Int} (h : SAt w b t r) (b' i : Nat) (u : Value) (hne : b ≠ b') : SAt (w.setCell ⟨b', i, none⟩ u) b t r := ⟨by rw [Below.heap_setCell w ⟨b', i, none⟩ u b hne]; exact h.own⟩

set_option maxRecDepth 100000 in
set_option maxHeartbeats 1000000 in
theorem Max_zero (A : Option Addr) (c : Nat) (w : World) (hc : c ≤ 9223372036854775807) :
    Calls Tryd.prog 24 #[.slice A 0 c] w fun x w' => x = .returned (stv 0 0) ∧ Below w.heap.size w w' := by
  go_enter Tryd.func24, Tryd.ntmps24
  go_wp2_with fail
  go_loopw [7] (fun v7 wr => v7 = .int .i64 0 ∧ SAt wr w.heap.size 0 0 ∧ Below w.heap.size w wr) (fun v7 _ => 0)
  case atStart => exact ⟨rfl, SAt.new w 0 0 _ rfl, below_alloc1 _ _⟩
  case round =>
    obtain ⟨rfl, hm, hb⟩ := hrel
    have HM := hid hm; have HB := hid hb
    have f0 := hm.fz 0; have f1 := hm.fz 1
    have c0 := hm.c0; have c1 := hm.c1
    clear hm hb
    go_wp2_with fail
    (try simp only [Exit.inBlock, Exit.then]); refine bodyPost_ret (v := stv 0 0) (by simp [results, show Tryd.f24.results = #[.cell 2 33] from rfl, go_sem, *]) rfl ?_
    exact ⟨rfl, below_put (below_put HB.out _ _ _ (Nat.le_refl _)) _ _ _ (Nat.le_refl _)⟩

set_option maxRecDepth 100000 in
theorem rMax_zero (A : Option Addr) (c : Nat) (w : World) (hc : c ≤ 9223372036854775807) :
    Calls Tryd.prog 51 #[.slice A 0 c] w fun x w' => x = .returned (stv 0 0) ∧ Below w.heap.size w w' := by
  have S0 := hid (SAt.new w 0 0 _ rfl)
  have H0 := hid (below_alloc1 w (so 0 0))
  have f0 := S0.out.fz 0; have f1 := S0.out.fz 1
  have c0 := S0.out.c0; have c1 := S0.out.c1
  go_enter Tryd.func51, Tryd.ntmps51
  go_wp2_with fail
  (try simp only [Exit.inBlock, Exit.then]); refine bodyPost_ret (v := stv 0 0) (by simp [results, show Tryd.f51.results = #[.cell 2 33] from rfl, go_sem, *]) rfl ?_
  refine ⟨rfl, ?_⟩
  repeat' first | exact H0.out | refine below_put ?_ _ _ _ (by omega)

set_option maxRecDepth 100000 in
set_option maxHeartbeats 2000000 in
theorem rMax_any (b o n c : Nat) (f : Nat → Int × Int) (w : World) (hn : n ≤ c) (hc : c ≤ 9223372036854775807) (h0 : 0 < n)
    (hx : ∀ i, i < n → w.cell? ⟨b, o + i * 2, none⟩ = some (.int .i64 (f i).1) ∧ w.cell? ⟨b, o + i * 2 + 1, none⟩ = some (.int .i64 (f i).2)) :
    Calls Tryd.prog 51 #[.slice (some ⟨b, o, none⟩) n c] w fun x w' => x = .returned (stv (smaxN f n).1 (smaxN f n).2) ∧ Below w.heap.size w w' := by
  have HX := hid hx
  have d0 := (hx 0 h0).1; have d1 := (hx 0 h0).2
  simp only [Nat.zero_mul, Nat.add_zero, Nat.zero_add] at d0 d1
  have F1 := hid (show smaxN f 1 = f 0 from if_pos (.inl rfl))
  have hn0 : ((n : Int) == 0) = false := by simp; omega
  clear hx
  have D0 := hid d0; have D1 := hid d1
  have e0 : (w.alloc (so 0 0)).cell? ⟨b, o, none⟩ = some (.int .i64 (f 0).1) := by rw [(below_alloc1 w (so 0 0)).cell (p := ⟨b, o, none⟩) (World.block_lt_of_cell? _ _ d0)]; exact d0
  have e1 : (w.alloc (so 0 0)).cell? ⟨b, o + 1, none⟩ = some (.int .i64 (f 0).2) := by rw [(below_alloc1 w (so 0 0)).cell (p := ⟨b, o + 1, none⟩) (World.block_lt_of_cell? _ _ d1)]; exact d1
  go_enter Tryd.func51, Tryd.ntmps51
  go_wp2_with fail
  clear d0 d1 e0 e1 D0 D1
  go_loopw [4] (fun v4 wr => ∃ i : Nat, 1 ≤ i ∧ i ≤ n ∧ v4 = .int .i64 i ∧ SAt wr (w.heap.size + 1) (smaxN f i).1 (smaxN f i).2 ∧ SAt wr w.heap.size 0 0 ∧ Below w.heap.size w wr) (fun v4 _ => n - (intOf v4).toNat)
  case atStart =>
    refine ⟨1, by omega, by omega, rfl, ?_, ?_, ?_⟩
    · rw [F1.out]; exact SAt.new _ _ _ _ (by simp)
    · exact (SAt.new w 0 0 _ rfl).below (below_alloc1 _ _)
    · exact below_alloc2 _ _ _
  case round =>
    obtain ⟨i, hi1, hi, rfl, hm, hz, hb⟩ := hrel
    by_cases hlt : i < n
    · have h1 := (HX.out i hlt).1
      have h2 := (HX.out i hlt).2
      rw [← hb.cell (p := ⟨b, o + i * 2, none⟩) (World.block_lt_of_cell? _ _ h1)] at h1
      rw [← hb.cell (p := ⟨b, o + i * 2 + 1, none⟩) (World.block_lt_of_cell? _ _ h2)] at h2
      have m0 := hm.c0; have m1 := hm.c1
      have HM := hid hm; have HZ := hid hz
      have hlm := hm.lt
      have HS := hid (show smaxN f (i + 1) = if i = 0 ∨ 0 < scmp (f i).1 (f i).2 (smaxN f i).1 (smaxN f i).2 then f i else smaxN f i from rfl)
      have HB := hid hb
      clear hb hm hz
      generalize smaxN f i = m at *
      generalize f i = x at *
      obtain ⟨x1, x2⟩ := x
      obtain ⟨y1, y2⟩ := m
      dsimp only at *
      have K1 := hid h1; have K2 := hid h2
      go_wp2_with fail
      refine wp_region_held_drew (S := fun w' => w'.cell? ⟨b, o + i * 2, none⟩ = some (.int .i64 x1) ∧ w'.cell? ⟨b, o + i * 2 + 1, none⟩ = some (.int .i64 x2) ∧ w'.cell? ⟨w.heap.size + 1, 0, none⟩ = some (.int .i64 y1) ∧ w'.cell? ⟨w.heap.size + 1, 1, none⟩ = some (.int .i64 y2)) (by kernel_rfl) (by exact ⟨h1, h2, m0, m1⟩) (fun hHeld => ?_)
      refine takeL 0 (v := ?_) rfl (by kernel_rfl) (by kernel_rfl) (by kernel_rfl) (fun _ _ _ h => h) (by rfl) ?_ (by assumption) ?_
      case' refine_2 => (intro w hSw; (try dsimp only at hSw); go_simp; try with_reducible rfl)
      try simp only [Act.put, List.setIfInBounds_toArray, List.set_cons_zero, List.set_cons_succ]
      refine takeL 1 (v := ?_) rfl (by kernel_rfl) (by kernel_rfl) (by kernel_rfl) (fun _ _ _ h => h) (by rfl) ?_ (by assumption) ?_
      case' refine_2 => (intro w hSw; (try dsimp only at hSw); go_simp; try with_reducible rfl)
      try simp only [Act.put, List.setIfInBounds_toArray, List.set_cons_zero, List.set_cons_succ]
      refine takeL 2 (v := ?_) rfl (by kernel_rfl) (by kernel_rfl) (by kernel_rfl) (fun _ _ _ h => h) (by rfl) ?_ (by assumption) ?_
      case' refine_2 => (intro w hSw; (try dsimp only at hSw); go_simp; try with_reducible rfl)
      try simp only [Act.put, List.setIfInBounds_toArray, List.set_cons_zero, List.set_cons_succ]
      refine takeL 3 (v := ?_) rfl (by kernel_rfl) (by kernel_rfl) (by kernel_rfl) (fun _ _ _ h => h) (by rfl) ?_ (by assumption) ?_
      case' refine_2 => (intro w hSw; (try dsimp only at hSw); go_simp; try with_reducible rfl)
      try simp only [Act.put, List.setIfInBounds_toArray, List.set_cons_zero, List.set_cons_succ]
      refine takeL 4 (v := ?_) rfl (by kernel_rfl) (by kernel_rfl) (by kernel_rfl) (fun _ _ _ h => h) (by rfl) ?_ (by assumption) ?_
      case' refine_2 => (intro w hSw; (try dsimp only at hSw); go_simp; try with_reducible rfl)
      try simp only [Act.put, List.setIfInBounds_toArray, List.set_cons_zero, List.set_cons_succ]
      refine soloL 5 rfl (by kernel_rfl) (fun K hK => ?_)
      go_simp
      go_at_call 50
      refine (rCompare2_any x1 x2 y1 y2 _).mono ?_
      rintro e w3 ⟨rfl, hb3⟩
      have M3 := hid (HM.out.drew.below hb3)
      have Z3 := hid (HZ.out.drew.below hb3)
      have B3 := hid (below_then HB.out.drew hb3)
      have k1 : w3.cell? ⟨b, o + i * 2, none⟩ = some (.int .i64 x1) := by rw [hb3.cell (p := ⟨b, o + i * 2, none⟩) (World.block_lt_of_cell? _ _ K1.out)]; exact K1.out
      have k2 : w3.cell? ⟨b, o + i * 2 + 1, none⟩ = some (.int .i64 x2) := by rw [hb3.cell (p := ⟨b, o + i * 2 + 1, none⟩) (World.block_lt_of_cell? _ _ K2.out)]; exact K2.out
      clear hb3 h1 h2 m0 m1
      go_wp2_with fail
      refine hK.out _ _ ⟨k1, k2, M3.out.c0, M3.out.c1⟩ (fun hHeld => ?_)
      clear hK K
      refine takeL 6 (v := ?_) rfl (by kernel_rfl) (by kernel_rfl) (by kernel_rfl) (fun _ _ _ h => h) (by rfl) ?_ (by assumption) ?_
      case' refine_2 => (intro w hSw; (try dsimp only at hSw); go_simp; try with_reducible rfl)
      try simp only [Act.put, List.setIfInBounds_toArray, List.set_cons_zero, List.set_cons_succ]
      refine wpAnyH_done (by kernel_rfl) ?_ _
      have f0 := M3.out.fz 0; have f1 := M3.out.fz 1
      have hl3 := M3.out.lt
      by_cases hgt : 0 < scmp x1 x2 y1 y2
      · have hS2 := hid (HS.out.trans (if_pos (.inr hgt)))
        generalize scmp x1 x2 y1 y2 = sc at *
        go_wp2_with fail
        go_roundw
        case rel =>
          refine ⟨i + 1, by omega, by omega, by go_num, ?_, ?_, ?_⟩
          · rw [hS2.out]; exact M3.out.set _ _
          · exact (Z3.out.off _ _ _ (by omega)).off _ _ _ (by omega)
          · exact below_put (below_put B3.out _ _ _ (by omega)) _ _ _ (by omega)
        case measure => simp [intOf]; omega
      · have hS2 := hid (HS.out.trans (if_neg (by omega)))
        generalize scmp x1 x2 y1 y2 = sc at *
        have hgt' : sc ≤ 0 := by omega
        go_wp2_with fail
        all_goals
          refine ⟨⟨i + 1, by omega, by omega, by go_num, by rw [hS2.out]; exact M3.out, Z3.out, B3.out⟩, ?_⟩
          simp [intOf]; omega
    · have hin : i = n := by omega
      subst hin
      have HB := hid hb
      have f0 := hz.fz 0; have f1 := hz.fz 1
      have c0 := hz.c0; have c1 := hz.c1
      have m0 := hm.c0; have m1 := hm.c1
      have hlz := hz.lt
      clear hb hm hz
      go_wp2_with fail
      (try simp only [Exit.inBlock, Exit.then]); refine bodyPost_ret (v := stv (smaxN f i).1 (smaxN f i).2) (by simp [results, show Tryd.f51.results = #[.cell 2 33] from rfl, go_sem, *]) rfl ?_
      exact ⟨rfl, below_put (below_put HB.out _ _ _ (Nat.le_refl _)) _ _ _ (Nat.le_refl _)⟩
theorem smaxL_zero {l : List (Int × Int)} (h : l.length = 0) : smaxL l = (0, 0) := by unfold smaxL; rw [h]; rfl
theorem Max_all (A : Option Addr) (n c : Nat) (l : List (Int × Int)) (w : World) (h : IsSt w A n c l) :
    Calls Tryd.prog 24 #[.slice A n c] w fun x w' => x = .returned (stv (smaxL l).1 (smaxL l).2) ∧ Below w.heap.size w w' := by
  by_cases h0 : n = 0
  · subst h0
    rw [smaxL_zero h.len]
    exact Max_zero A c w h.max
  · obtain ⟨b, o, rfl, hx⟩ := h.at_ (by omega)
    have := Max_any b o n c (fun i => l.getD i (0, 0)) w h.cap h.max hx
    rw [← h.len] at this ⊢
    exact this
theorem rMax_all (A : Option Addr) (n c : Nat) (l : List (Int × Int)) (w : World) (h : IsSt w A n c l) :
    Calls Tryd.prog 51 #[.slice A n c] w fun x w' => x = .returned (stv (smaxL l).1 (smaxL l).2) ∧ Below w.heap.size w w' := by
  by_cases h0 : n = 0
  · subst h0
    rw [smaxL_zero h.len]
    exact rMax_zero A c w h.max
  · obtain ⟨b, o, rfl, hx⟩ := h.at_ (by omega)
    have := rMax_any b o n c (fun i => l.getD i (0, 0)) w h.cap h.max (by omega) hx
    rw [← h.len] at this ⊢
    exact this
end Go.Proofs.YtdbghnfmhgjkaaaDoor
