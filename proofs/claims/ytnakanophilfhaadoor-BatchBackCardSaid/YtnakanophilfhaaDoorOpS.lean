/- Layer 7: Same. -/
import Derived.Test.YtnakanophilfhaaDoorOpB
import Derived.Test.YtnakanophilfhaaDoorInR
namespace Go.Proofs.YtnakanophilfhaaDoor
open Go.RowKit Go.Dio
set_option linter.unusedVariables false
set_option linter.unusedSimpArgs false

theorem getD_eq_of {l l' : List (Int × Int)} (hl : l.length = l'.length) (h : ∀ j, j < l.length → l.getD j (0, 0) = l'.getD j (0, 0)) : l = l' := by
  apply List.ext_getElem hl
  intro i h1 h2
  have := h i h1
  rwa [List.getD_eq_getElem?_getD, List.getD_eq_getElem?_getD, List.getElem?_eq_getElem h1, List.getElem?_eq_getElem h2] at this

set_option maxRecDepth 100000 in
set_option maxHeartbeats 4000000 in
theorem Equal_st (A : Option Addr) (n c : Nat) (l : List (Int × Int)) (A' : Option Addr) (n' c' : Nat) (l' : List (Int × Int)) (w : World) (h : IsSt w A n c l) (h' : IsSt w A' n' c' l') :
    Calls Tryd.prog 53 #[.slice A n c, .slice A' n' c'] w fun e w' => e = .returned (.bool (decide (l = l'))) ∧ Drawn w w' := by
  have hl := h.len; have hl' := h'.len
  have hc := h.cap; have hm := h.max
  have hc' := h'.cap; have hm' := h'.max
  have HH := hid h; have HH' := hid h'
  clear h h'
  by_cases hn : n = n'
  · have hnb : ((n : Int) == n') = true := by simp [hn]
    have HN := hid hn
    have HL := hid hl; have HL' := hid hl'
    clear hl hl' hn
    go_enter Tryd.func53, Tryd.ntmps53
    go_wp2_with fail
    go_loopw [13] (fun v13 wr => ∃ i : Nat, i ≤ n ∧ v13 = .int .i64 i ∧ (∀ j, j < i → l.getD j (0, 0) = l'.getD j (0, 0)) ∧ Drawn w wr) (fun v13 _ => n - (intOf v13).toNat)
    case atStart => exact ⟨0, by omega, rfl, fun j hj => absurd hj (by omega), Drawn.refl _⟩
    case round =>
      obtain ⟨i, hi, rfl, hj, hd⟩ := hrel
      have HJ := hid hj; have HD := hid hd
      clear hj
      by_cases hlt : i < n
      · obtain ⟨b, o, rfl, hx⟩ := (HH.out.below hd.below).at_ (by omega)
        obtain ⟨b', o', rfl, hx'⟩ := (HH'.out.below hd.below).at_ (by have := HN.out; omega)
        obtain ⟨h1, h2⟩ := hx i hlt
        obtain ⟨h3, h4⟩ := hx' i (by have := HN.out; omega)
        have hlt' : i < n' := by have := HN.out; omega
        clear hx hx' hd
        generalize hp : l.getD i (0, 0) = p at *
        generalize hp' : l'.getD i (0, 0) = p' at *
        have HP := hid hp; have HP' := hid hp'
        clear hp hp'
        obtain ⟨x, y⟩ := p
        obtain ⟨x', y'⟩ := p'
        dsimp only at h1 h2 h3 h4
        have hHeld0 : wr.drew.cell? ⟨b, o + i * 2, none⟩ = some (.int .i64 x) ∧ wr.drew.cell? ⟨b, o + i * 2 + 1, none⟩ = some (.int .i64 y) ∧ wr.drew.cell? ⟨b', o' + i * 2, none⟩ = some (.int .i64 x') ∧ wr.drew.cell? ⟨b', o' + i * 2 + 1, none⟩ = some (.int .i64 y') := ⟨h1, h2, h3, h4⟩
        clear h1 h2 h3 h4
        go_wp2_with fail
        refine wp_region_held_drew (S := fun w' => w'.cell? ⟨b, o + i * 2, none⟩ = some (.int .i64 x) ∧ w'.cell? ⟨b, o + i * 2 + 1, none⟩ = some (.int .i64 y) ∧ w'.cell? ⟨b', o' + i * 2, none⟩ = some (.int .i64 x') ∧ w'.cell? ⟨b', o' + i * 2 + 1, none⟩ = some (.int .i64 y')) (by kernel_rfl) (by exact hHeld0) (fun hHeld => ?_)
        refine takeL 0 (v := ?_) rfl (by kernel_rfl) (by kernel_rfl) (by kernel_rfl) (fun _ _ _ h => h) (by rfl) ?_ (by assumption) ?_
        case' refine_2 => (intro w hSw; (try dsimp only at hSw); go_simp; try with_reducible rfl)
        try simp only [Act.put, List.setIfInBounds_toArray, List.set_cons_zero, List.set_cons_succ]
        refine takeL 1 (v := ?_) rfl (by kernel_rfl) (by kernel_rfl) (by kernel_rfl) (fun _ _ _ h => h) (by rfl) ?_ (by assumption) ?_
        case' refine_2 => (intro w hSw; (try dsimp only at hSw); go_simp; try with_reducible rfl)
        try simp only [Act.put, List.setIfInBounds_toArray, List.set_cons_zero, List.set_cons_succ]
        refine takeL 2 (v := ?_) rfl (by kernel_rfl) (by kernel_rfl) (by kernel_rfl) (fun _ _ _ h => h) (by rfl) ?_ (by assumption) ?_
        case' refine_2 => (intro w hSw; (try dsimp only at hSw); go_simp; try with_reducible rfl)
        try simp only [Act.put, List.setIfInBounds_toArray, List.set_cons_zero, List.set_cons_succ]
        refine takeL 3 (v := ?_) rfl (by kernel_rfl) (by kernel_rfl) (by kernel_rfl) (fun _ _ _ h => h) (by rfl) ?_ (by assumption) ?_
        case' refine_2 => (intro w hSw; (try dsimp only at hSw); go_simp; try with_reducible rfl)
        try simp only [Act.put, List.setIfInBounds_toArray, List.set_cons_zero, List.set_cons_succ]
        refine takeL 4 (v := ?_) rfl (by kernel_rfl) (by kernel_rfl) (by kernel_rfl) (fun _ _ _ h => h) (by rfl) ?_ (by assumption) ?_
        case' refine_2 => (intro w hSw; (try dsimp only at hSw); go_simp; try with_reducible rfl)
        try simp only [Act.put, List.setIfInBounds_toArray, List.set_cons_zero, List.set_cons_succ]
        refine takeL 5 (v := ?_) rfl (by kernel_rfl) (by kernel_rfl) (by kernel_rfl) (fun _ _ _ h => h) (by rfl) ?_ (by assumption) ?_
        case' refine_2 => (intro w hSw; (try dsimp only at hSw); go_simp; try with_reducible rfl)
        try simp only [Act.put, List.setIfInBounds_toArray, List.set_cons_zero, List.set_cons_succ]
        refine takeL 6 (v := ?_) rfl (by kernel_rfl) (by kernel_rfl) (by kernel_rfl) (fun _ _ _ h => h) (by rfl) ?_ (by assumption) ?_
        case' refine_2 => (intro w hSw; (try dsimp only at hSw); go_simp; try with_reducible rfl)
        try simp only [Act.put, List.setIfInBounds_toArray, List.set_cons_zero, List.set_cons_succ]
        refine takeL 7 (v := ?_) rfl (by kernel_rfl) (by kernel_rfl) (by kernel_rfl) (fun _ _ _ h => h) (by rfl) ?_ (by assumption) ?_
        case' refine_2 => (intro w hSw; (try dsimp only at hSw); go_simp; try with_reducible rfl)
        try simp only [Act.put, List.setIfInBounds_toArray, List.set_cons_zero, List.set_cons_succ]
        by_cases heq : x = x' ∧ y = y'
        · refine takeL 8 (v := .bool false) rfl (by kernel_rfl) (by kernel_rfl) (by kernel_rfl) (fun _ _ _ h => h) (by rfl) ?_ (by assumption) ?_
          · intro w hSw
            clear hSw
            go_simp
            try simp [heq.1, heq.2]
          try simp only [Act.put, List.setIfInBounds_toArray, List.set_cons_zero, List.set_cons_succ]
          refine wpAnyH_done (by kernel_rfl) ?_ _
          clear hHeld hHeld0
          have HE := hid heq
          clear heq
          go_wp2_with fail
          refine ⟨⟨i + 1, by omega, by go_num, fun j hj => ?_, ?_⟩, by simp [intOf]; omega⟩
          · by_cases e : j = i
            · subst e; rw [HP.out, HP'.out, HE.out.1, HE.out.2]
            · exact HJ.out j (by omega)
          · obtain ⟨q, hq⟩ := HD.out
            exact ⟨q + 1, by rw [hq]; rfl⟩
        · refine takeL 8 (v := .bool true) rfl (by kernel_rfl) (by kernel_rfl) (by kernel_rfl) (fun _ _ _ h => h) (by rfl) ?_ (by assumption) ?_
          · intro w hSw
            clear hSw
            go_simp
            by_cases qa : x = x' <;> by_cases qb : y = y' <;> simp [qa, qb]
            all_goals exact heq ⟨qa, qb⟩
          try simp only [Act.put, List.setIfInBounds_toArray, List.set_cons_zero, List.set_cons_succ]
          refine wpAnyH_done (by kernel_rfl) ?_ _
          have F := hid (show decide (l = l') = false by
            simp only [decide_eq_false_iff_not]
            intro e
            have h1 := HP.out; have h2 := HP'.out
            rw [e, h2] at h1
            injection h1 with h1 h3
            exact heq ⟨h1.symm, h3.symm⟩)
          clear hHeld hHeld0 heq
          go_wp2_with fail
          go_ret
          obtain ⟨q, hq⟩ := HD.out
          exact ⟨by rw [F.out]; rfl, q + 1, by rw [hq]; rfl⟩
      · have hin : i = n := by omega
        subst hin
        have F := hid (show decide (l = l') = true by
          simp only [decide_eq_true_eq]
          exact getD_eq_of (by rw [HL.out, HL'.out]; exact HN.out) (by rw [HL.out]; exact HJ.out))
        clear hd
        go_wp2_with fail
        go_ret
        exact ⟨by rw [F.out]; rfl, HD.out⟩
  · have hnb : ((n : Int) == n') = false := by simp; omega
    have F := hid (show decide (l = l') = false by
      simp only [decide_eq_false_iff_not]
      intro e; subst e; omega)
    clear hl hl' hn
    go_enter Tryd.func53, Tryd.ntmps53
    go_wp2_with fail
    go_ret
    exact ⟨by rw [F.out]; rfl, Drawn.refl _⟩
end Go.Proofs.YtnakanophilfhaaDoor
