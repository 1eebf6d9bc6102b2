/- OpN BtO BtF BtH Kn8 in one. -/
import Derived.Test.YtnakanophilfhaaDoorOpO
import Derived.Test.YtnakanophilfhaaDoorBzN
/- OpN: Layer 7: the statements' Own, and where the new path lies. -/
namespace Go.Proofs.YtnakanophilfhaaDoor
open Go.RowKit Go.Dio
set_option linter.unusedVariables false
set_option linter.unusedSimpArgs false
set_option maxRecDepth 100000 in
set_option maxHeartbeats 8000000 in
theorem Own7_anyN (k n1 n2 r1 r2 : Int) (key : ByteArray) (path : List (Int × Int)) (prop vk vn : Int) (vt : ByteArray) (on : Bool) (A : Option Addr) (n c : Nat) (w : World) (hl : IsSt w A n c path) (hn : n ≤ 500) :
    Calls Tryd.prog 13 #[opv ⟨k, n1, n2, r1, r2, key, path, prop, vk, vn, vt, on⟩ A n c] w fun e w' => (∃ A' c', e = .returned (opv ⟨k, n1, n2, r1, r2, key, path, prop, vk, vn, vt, on⟩ A' n c') ∧ IsSt w' A' n c' path ∧ ∀ a, A' = some a → w.heap.size ≤ a.block ∧ a.block < w'.heap.size) ∧ Below w.heap.size w w' := by
  have HLN := hid hl.len
  have W0 := hid (below_alloc1 w (o7 ⟨k, n1, n2, r1, r2, key, path, prop, vk, vn, vt, on⟩ A n c))
  have O0 := hid (O7At.new w ⟨k, n1, n2, r1, r2, key, path, prop, vk, vn, vt, on⟩ A n c _ rfl)
  have L0 := hid (hl.below W0.out)
  have Z0 := hid (OAt.new (w.alloc (o7 ⟨k, n1, n2, r1, r2, key, path, prop, vk, vn, vt, on⟩ A n c)) ⟨0, 0, 0, 0, 0, ⟨#[]⟩, [], 0, 0, 0, ⟨#[]⟩, false⟩ none 0 0 (w.heap.size + 1) (by simp))
  have hsz : (w.alloc (o7 ⟨k, n1, n2, r1, r2, key, path, prop, vk, vn, vt, on⟩ A n c)).heap.size = w.heap.size + 1 := by simp
  clear hl
  go_enter Tryd.func13, Tryd.ntmps13
  go_wp2_with fail
  generalize hW : w.alloc (o7 ⟨k, n1, n2, r1, r2, key, path, prop, vk, vn, vt, on⟩ A n c) = W at *
  have B0 := hid (below_alloc1 W (oo ⟨0, 0, 0, 0, 0, ⟨#[]⟩, [], 0, 0, 0, ⟨#[]⟩, false⟩ none 0 0)).drew
  generalize hV : W.alloc (oo ⟨0, 0, 0, 0, 0, ⟨#[]⟩, [], 0, 0, 0, ⟨#[]⟩, false⟩ none 0 0) = V at *
  have hvs : V.heap.size = w.heap.size + 2 := by rw [← hV]; simp [hsz]
  clear hW hV
  have hHeld0 := B0.out
  refine wp_region_held_drew (S := fun w' => Below W.heap.size W w') (by kernel_rfl) (by exact hHeld0) (fun hHeld => ?_)
  clear hHeld0
  refine takeL 0 (v := ?_) rfl (by kernel_rfl) (by kernel_rfl) (by kernel_rfl) (fun _ _ _ h => h) (by rfl) ?_ (by assumption) ?_
  case' refine_2 => (intro w hSw; (try dsimp only at hSw); have q := (O0.out.below hSw).cs; have y0 := q.c0; have y1 := q.c1; have y2 := q.c2; have y3 := q.c3; have y4 := q.c4; have y5 := q.c5; have y6 := q.c6; have y7 := q.c7; have y8 := q.c8; have y9 := q.c9; have y10 := q.c10; have y11 := q.c11; clear q; go_simp; try with_reducible rfl)
  try simp only [Act.put, List.setIfInBounds_toArray, List.set_cons_zero, List.set_cons_succ]
  refine takeL 1 (v := ?_) rfl (by kernel_rfl) (by kernel_rfl) (by kernel_rfl) (fun _ _ _ h => h) (by rfl) ?_ (by assumption) ?_
  case' refine_2 => (intro w hSw; (try dsimp only at hSw); have q := (O0.out.below hSw).cs; have y0 := q.c0; have y1 := q.c1; have y2 := q.c2; have y3 := q.c3; have y4 := q.c4; have y5 := q.c5; have y6 := q.c6; have y7 := q.c7; have y8 := q.c8; have y9 := q.c9; have y10 := q.c10; have y11 := q.c11; clear q; go_simp; try with_reducible rfl)
  try simp only [Act.put, List.setIfInBounds_toArray, List.set_cons_zero, List.set_cons_succ]
  refine takeL 2 (v := ?_) rfl (by kernel_rfl) (by kernel_rfl) (by kernel_rfl) (fun _ _ _ h => h) (by rfl) ?_ (by assumption) ?_
  case' refine_2 => (intro w hSw; (try dsimp only at hSw); have q := (O0.out.below hSw).cs; have y0 := q.c0; have y1 := q.c1; have y2 := q.c2; have y3 := q.c3; have y4 := q.c4; have y5 := q.c5; have y6 := q.c6; have y7 := q.c7; have y8 := q.c8; have y9 := q.c9; have y10 := q.c10; have y11 := q.c11; clear q; go_simp; try with_reducible rfl)
  try simp only [Act.put, List.setIfInBounds_toArray, List.set_cons_zero, List.set_cons_succ]
  refine takeL 3 (v := ?_) rfl (by kernel_rfl) (by kernel_rfl) (by kernel_rfl) (fun _ _ _ h => h) (by rfl) ?_ (by assumption) ?_
  case' refine_2 => (intro w hSw; (try dsimp only at hSw); have q := (O0.out.below hSw).cs; have y0 := q.c0; have y1 := q.c1; have y2 := q.c2; have y3 := q.c3; have y4 := q.c4; have y5 := q.c5; have y6 := q.c6; have y7 := q.c7; have y8 := q.c8; have y9 := q.c9; have y10 := q.c10; have y11 := q.c11; clear q; go_simp; try with_reducible rfl)
  try simp only [Act.put, List.setIfInBounds_toArray, List.set_cons_zero, List.set_cons_succ]
  refine takeL 4 (v := ?_) rfl (by kernel_rfl) (by kernel_rfl) (by kernel_rfl) (fun _ _ _ h => h) (by rfl) ?_ (by assumption) ?_
  case' refine_2 => (intro w hSw; (try dsimp only at hSw); have q := (O0.out.below hSw).cs; have y0 := q.c0; have y1 := q.c1; have y2 := q.c2; have y3 := q.c3; have y4 := q.c4; have y5 := q.c5; have y6 := q.c6; have y7 := q.c7; have y8 := q.c8; have y9 := q.c9; have y10 := q.c10; have y11 := q.c11; clear q; go_simp; try with_reducible rfl)
  try simp only [Act.put, List.setIfInBounds_toArray, List.set_cons_zero, List.set_cons_succ]
  refine takeL 5 (v := ?_) rfl (by kernel_rfl) (by kernel_rfl) (by kernel_rfl) (fun _ _ _ h => h) (by rfl) ?_ (by assumption) ?_
  case' refine_2 => (intro w hSw; (try dsimp only at hSw); have q := (O0.out.below hSw).cs; have y0 := q.c0; have y1 := q.c1; have y2 := q.c2; have y3 := q.c3; have y4 := q.c4; have y5 := q.c5; have y6 := q.c6; have y7 := q.c7; have y8 := q.c8; have y9 := q.c9; have y10 := q.c10; have y11 := q.c11; clear q; go_simp; try with_reducible rfl)
  try simp only [Act.put, List.setIfInBounds_toArray, List.set_cons_zero, List.set_cons_succ]
  refine takeL 6 (v := ?_) rfl (by kernel_rfl) (by kernel_rfl) (by kernel_rfl) (fun _ _ _ h => h) (by rfl) ?_ (by assumption) ?_
  case' refine_2 => (intro w hSw; (try dsimp only at hSw); have q := (O0.out.below hSw).cs; have y0 := q.c0; have y1 := q.c1; have y2 := q.c2; have y3 := q.c3; have y4 := q.c4; have y5 := q.c5; have y6 := q.c6; have y7 := q.c7; have y8 := q.c8; have y9 := q.c9; have y10 := q.c10; have y11 := q.c11; clear q; go_simp; try with_reducible rfl)
  try simp only [Act.put, List.setIfInBounds_toArray, List.set_cons_zero, List.set_cons_succ]
  refine takeL 7 (v := ?_) rfl (by kernel_rfl) (by kernel_rfl) (by kernel_rfl) (fun _ _ _ h => h) (by rfl) ?_ (by assumption) ?_
  case' refine_2 => (intro w hSw; (try dsimp only at hSw); have q := (O0.out.below hSw).cs; have y0 := q.c0; have y1 := q.c1; have y2 := q.c2; have y3 := q.c3; have y4 := q.c4; have y5 := q.c5; have y6 := q.c6; have y7 := q.c7; have y8 := q.c8; have y9 := q.c9; have y10 := q.c10; have y11 := q.c11; clear q; go_simp; try with_reducible rfl)
  try simp only [Act.put, List.setIfInBounds_toArray, List.set_cons_zero, List.set_cons_succ]
  refine takeL 9 (v := ?_) rfl (by kernel_rfl) (by kernel_rfl) (by kernel_rfl) (fun _ _ _ h => h) (by rfl) ?_ (by assumption) ?_
  case' refine_2 => (intro w hSw; (try dsimp only at hSw); have q := (O0.out.below hSw).cs; have y0 := q.c0; have y1 := q.c1; have y2 := q.c2; have y3 := q.c3; have y4 := q.c4; have y5 := q.c5; have y6 := q.c6; have y7 := q.c7; have y8 := q.c8; have y9 := q.c9; have y10 := q.c10; have y11 := q.c11; clear q; go_simp; try with_reducible rfl)
  try simp only [Act.put, List.setIfInBounds_toArray, List.set_cons_zero, List.set_cons_succ]
  refine takeL 10 (v := ?_) rfl (by kernel_rfl) (by kernel_rfl) (by kernel_rfl) (fun _ _ _ h => h) (by rfl) ?_ (by assumption) ?_
  case' refine_2 => (intro w hSw; (try dsimp only at hSw); have q := (O0.out.below hSw).cs; have y0 := q.c0; have y1 := q.c1; have y2 := q.c2; have y3 := q.c3; have y4 := q.c4; have y5 := q.c5; have y6 := q.c6; have y7 := q.c7; have y8 := q.c8; have y9 := q.c9; have y10 := q.c10; have y11 := q.c11; clear q; go_simp; try with_reducible rfl)
  try simp only [Act.put, List.setIfInBounds_toArray, List.set_cons_zero, List.set_cons_succ]
  refine takeL 12 (v := ?_) rfl (by kernel_rfl) (by kernel_rfl) (by kernel_rfl) (fun _ _ _ h => h) (by rfl) ?_ (by assumption) ?_
  case' refine_2 => (intro w hSw; (try dsimp only at hSw); have q := (O0.out.below hSw).cs; have y0 := q.c0; have y1 := q.c1; have y2 := q.c2; have y3 := q.c3; have y4 := q.c4; have y5 := q.c5; have y6 := q.c6; have y7 := q.c7; have y8 := q.c8; have y9 := q.c9; have y10 := q.c10; have y11 := q.c11; clear q; go_simp; try with_reducible rfl)
  try simp only [Act.put, List.setIfInBounds_toArray, List.set_cons_zero, List.set_cons_succ]
  refine takeL 13 (v := ?_) rfl (by kernel_rfl) (by kernel_rfl) (by kernel_rfl) (fun _ _ _ h => h) (by rfl) ?_ (by assumption) ?_
  case' refine_2 => (intro w hSw; (try dsimp only at hSw); have q := (O0.out.below hSw).cs; have y0 := q.c0; have y1 := q.c1; have y2 := q.c2; have y3 := q.c3; have y4 := q.c4; have y5 := q.c5; have y6 := q.c6; have y7 := q.c7; have y8 := q.c8; have y9 := q.c9; have y10 := q.c10; have y11 := q.c11; clear q; go_simp; try with_reducible rfl)
  try simp only [Act.put, List.setIfInBounds_toArray, List.set_cons_zero, List.set_cons_succ]
  refine takeL 14 (v := ?_) rfl (by kernel_rfl) (by kernel_rfl) (by kernel_rfl) (fun _ _ _ h => h) (by rfl) ?_ (by assumption) ?_
  case' refine_2 => (intro w hSw; (try dsimp only at hSw); have q := (O0.out.below hSw).cs; have y0 := q.c0; have y1 := q.c1; have y2 := q.c2; have y3 := q.c3; have y4 := q.c4; have y5 := q.c5; have y6 := q.c6; have y7 := q.c7; have y8 := q.c8; have y9 := q.c9; have y10 := q.c10; have y11 := q.c11; clear q; go_simp; try with_reducible rfl)
  try simp only [Act.put, List.setIfInBounds_toArray, List.set_cons_zero, List.set_cons_succ]
  refine takeL 15 (v := ?_) rfl (by kernel_rfl) (by kernel_rfl) (by kernel_rfl) (fun _ _ _ h => h) (by rfl) ?_ (by assumption) ?_
  case' refine_2 => (intro w hSw; (try dsimp only at hSw); have q := (O0.out.below hSw).cs; have y0 := q.c0; have y1 := q.c1; have y2 := q.c2; have y3 := q.c3; have y4 := q.c4; have y5 := q.c5; have y6 := q.c6; have y7 := q.c7; have y8 := q.c8; have y9 := q.c9; have y10 := q.c10; have y11 := q.c11; clear q; go_simp; try with_reducible rfl)
  try simp only [Act.put, List.setIfInBounds_toArray, List.set_cons_zero, List.set_cons_succ]
  refine takeL 16 (v := ?_) rfl (by kernel_rfl) (by kernel_rfl) (by kernel_rfl) (fun _ _ _ h => h) (by rfl) ?_ (by assumption) ?_
  case' refine_2 => (intro w hSw; (try dsimp only at hSw); have q := (O0.out.below hSw).cs; have y0 := q.c0; have y1 := q.c1; have y2 := q.c2; have y3 := q.c3; have y4 := q.c4; have y5 := q.c5; have y6 := q.c6; have y7 := q.c7; have y8 := q.c8; have y9 := q.c9; have y10 := q.c10; have y11 := q.c11; clear q; go_simp; try with_reducible rfl)
  try simp only [Act.put, List.setIfInBounds_toArray, List.set_cons_zero, List.set_cons_succ]
  refine takeL 17 (v := ?_) rfl (by kernel_rfl) (by kernel_rfl) (by kernel_rfl) (fun _ _ _ h => h) (by rfl) ?_ (by assumption) ?_
  case' refine_2 => (intro w hSw; (try dsimp only at hSw); have q := (O0.out.below hSw).cs; have y0 := q.c0; have y1 := q.c1; have y2 := q.c2; have y3 := q.c3; have y4 := q.c4; have y5 := q.c5; have y6 := q.c6; have y7 := q.c7; have y8 := q.c8; have y9 := q.c9; have y10 := q.c10; have y11 := q.c11; clear q; go_simp; try with_reducible rfl)
  try simp only [Act.put, List.setIfInBounds_toArray, List.set_cons_zero, List.set_cons_succ]
  refine soloL 8 rfl (by kernel_rfl) (fun K hK => ?_)
  go_simp
  have hS := hHeld.alloc hHeld.size (.cells #[] 23)
  refine hK.out _ (V.drew.alloc (.cells #[] 23)) hS (fun hHeld2 => ?_)
  clear hK K hHeld2 hHeld
  have Z1 := hid ((Z0.out.drew).below (below_alloc1 V.drew (.cells #[] 23)))
  have hle : V.drew.heap.size ≤ (V.drew.alloc (.cells #[] 23)).heap.size := (below_alloc1 _ _).size
  have hvd : V.drew.heap.size = w.heap.size + 2 := hvs
  have hst : (V.drew.alloc (.cells #[] 23)).ownsRow (w.heap.size + 2) 23 2 (.slice (some ⟨w.heap.size + 2, 0, none⟩) 0 0) 0 [] := by
    rw [← hvd]; exact st_lit V.drew V.drew.heap.size (Nat.le_refl _)
  rw [hvd] at hle
  refine soloL 11 rfl (by kernel_rfl) (fun K hK => ?_)
  rw [if_pos (by kernel_rfl)]
  refine wp_append (w.heap.size + 2) _ _ 24 23 (.agg #[.int .i64 0, .int .i64 0]) 2 16 rfl Tryd.underlying24 info_st rfl (by omega) (by omega) _ 0 n [] (sv path) A c rfl rfl hst ((L0.out.below hS).cells) (by rw [sv_length, HLN.out]) (sv_one path) hle (by omega) ?_
  intro v14 w14 ho14 hg14 hat14
  have hS2 := hS.grown hg14 hS.size (fun q hq => by have := owns_base hst q hq; omega)
  have Z2 := hid (show OAt w14 (w.heap.size + 1) ⟨0, 0, 0, 0, 0, ⟨#[]⟩, [], 0, 0, 0, ⟨#[]⟩, false⟩ none 0 0 from ⟨by rw [hg14.block _ Z1.out.lt (fun e => by have := owns_base hst _ e.symm; omega)]; exact Z1.out.own⟩)
  clear hg14 hat14 Z1 hS hle
  obtain ⟨A14, c14, rfl, hn14, hc14, hC14, hA14⟩ := owns_form ho14
  rw [Nat.zero_add] at hn14 ⊢
  rw [List.nil_append] at hC14
  have L14 := hid (show IsSt w14 A14 n c14 path from ⟨HLN.out, hn14, hc14, hC14⟩)
  clear ho14 hC14
  refine hK.out _ _ hS2 (fun hHeld => ?_)
  clear hK K
  refine takeL 18 (v := ?_) rfl (by kernel_rfl) (by kernel_rfl) (by kernel_rfl) (fun _ _ _ h => h) (by rfl) ?_ (by assumption) ?_
  case' refine_2 => (intro w hSw; (try dsimp only at hSw); go_simp; try with_reducible rfl)
  try simp only [Act.put, List.setIfInBounds_toArray, List.set_cons_zero, List.set_cons_succ]
  have zz := Z2.out.cs
  have z0 := zz.c0; have z1 := zz.c1; have z2 := zz.c2; have z3 := zz.c3; have z4 := zz.c4; have z5 := zz.c5; have z6 := zz.c6; have z7 := zz.c7; have z8 := zz.c8; have z9 := zz.c9; have z10 := zz.c10; have z11 := zz.c11
  have zf := Z2.out.fz
  have zl := Z2.out.lt
  clear zz
  refine soloL 19 rfl (by kernel_rfl) (fun K hK => ?_)
  go_simp
  have B3 := hid (below_put (below_put (below_put (below_put (below_put (below_put (below_put (below_put (below_put (below_put (below_put (below_put hS2 (w.heap.size + 1) 0 (.int .i64 k) (by omega)) (w.heap.size + 1) 1 (.int .i64 n1) (by omega)) (w.heap.size + 1) 2 (.int .i64 n2) (by omega)) (w.heap.size + 1) 3 (.int .i64 r1) (by omega)) (w.heap.size + 1) 4 (.int .i64 r2) (by omega)) (w.heap.size + 1) 5 (.string key) (by omega)) (w.heap.size + 1) 6 (.slice A14 n c14) (by omega)) (w.heap.size + 1) 7 (.int .i64 prop) (by omega)) (w.heap.size + 1) 8 (.int .i64 vk) (by omega)) (w.heap.size + 1) 9 (.int .i64 vn) (by omega)) (w.heap.size + 1) 10 (.string vt) (by omega)) (w.heap.size + 1) 11 (.bool on) (by omega))
  have Z3 := hid (Z2.out.set12 (OpD.mk k n1 n2 r1 r2 key path prop vk vn vt on) A14 n c14)
  have L3 := hid (L14.out.move (w' := ((((((((((((w14.setCell ⟨w.heap.size + 1, 0, none⟩ (.int .i64 k)).setCell ⟨w.heap.size + 1, 1, none⟩ (.int .i64 n1)).setCell ⟨w.heap.size + 1, 2, none⟩ (.int .i64 n2)).setCell ⟨w.heap.size + 1, 3, none⟩ (.int .i64 r1)).setCell ⟨w.heap.size + 1, 4, none⟩ (.int .i64 r2)).setCell ⟨w.heap.size + 1, 5, none⟩ (.string key)).setCell ⟨w.heap.size + 1, 6, none⟩ (.slice A14 n c14)).setCell ⟨w.heap.size + 1, 7, none⟩ (.int .i64 prop)).setCell ⟨w.heap.size + 1, 8, none⟩ (.int .i64 vk)).setCell ⟨w.heap.size + 1, 9, none⟩ (.int .i64 vn)).setCell ⟨w.heap.size + 1, 10, none⟩ (.string vt)).setCell ⟨w.heap.size + 1, 11, none⟩ (.bool on))) fun a ha => by
    have hne : a.block ≠ w.heap.size + 1 := by have := (hA14 a ha).1; omega
    rw [Below.heap_setCell _ ⟨w.heap.size + 1, 11, none⟩ _ a.block hne, Below.heap_setCell _ ⟨w.heap.size + 1, 10, none⟩ _ a.block hne, Below.heap_setCell _ ⟨w.heap.size + 1, 9, none⟩ _ a.block hne, Below.heap_setCell _ ⟨w.heap.size + 1, 8, none⟩ _ a.block hne, Below.heap_setCell _ ⟨w.heap.size + 1, 7, none⟩ _ a.block hne, Below.heap_setCell _ ⟨w.heap.size + 1, 6, none⟩ _ a.block hne, Below.heap_setCell _ ⟨w.heap.size + 1, 5, none⟩ _ a.block hne, Below.heap_setCell _ ⟨w.heap.size + 1, 4, none⟩ _ a.block hne, Below.heap_setCell _ ⟨w.heap.size + 1, 3, none⟩ _ a.block hne, Below.heap_setCell _ ⟨w.heap.size + 1, 2, none⟩ _ a.block hne, Below.heap_setCell _ ⟨w.heap.size + 1, 1, none⟩ _ a.block hne, Below.heap_setCell _ ⟨w.heap.size + 1, 0, none⟩ _ a.block hne])
  clear Z2 L14 zf zl z0 z1 z2 z3 z4 z5 z6 z7 z8 z9 z10 z11 hHeld
  refine hK.out _ _ B3.out (fun hHeld => ?_)
  clear hK K hHeld
  have HA3 := hid (show ∀ a, A14 = some a → w.heap.size ≤ a.block ∧ a.block < (((((((((((((w14.setCell ⟨w.heap.size + 1, 0, none⟩ (.int .i64 k)).setCell ⟨w.heap.size + 1, 1, none⟩ (.int .i64 n1)).setCell ⟨w.heap.size + 1, 2, none⟩ (.int .i64 n2)).setCell ⟨w.heap.size + 1, 3, none⟩ (.int .i64 r1)).setCell ⟨w.heap.size + 1, 4, none⟩ (.int .i64 r2)).setCell ⟨w.heap.size + 1, 5, none⟩ (.string key)).setCell ⟨w.heap.size + 1, 6, none⟩ (.slice A14 n c14)).setCell ⟨w.heap.size + 1, 7, none⟩ (.int .i64 prop)).setCell ⟨w.heap.size + 1, 8, none⟩ (.int .i64 vk)).setCell ⟨w.heap.size + 1, 9, none⟩ (.int .i64 vn)).setCell ⟨w.heap.size + 1, 10, none⟩ (.string vt)).setCell ⟨w.heap.size + 1, 11, none⟩ (.bool on))).heap.size from fun a ha => ⟨by have := (hA14 a ha).1; omega, by simp only [World.size_setCell]; exact (hA14 a ha).2.1⟩)
  generalize ((((((((((((w14.setCell ⟨w.heap.size + 1, 0, none⟩ (.int .i64 k)).setCell ⟨w.heap.size + 1, 1, none⟩ (.int .i64 n1)).setCell ⟨w.heap.size + 1, 2, none⟩ (.int .i64 n2)).setCell ⟨w.heap.size + 1, 3, none⟩ (.int .i64 r1)).setCell ⟨w.heap.size + 1, 4, none⟩ (.int .i64 r2)).setCell ⟨w.heap.size + 1, 5, none⟩ (.string key)).setCell ⟨w.heap.size + 1, 6, none⟩ (.slice A14 n c14)).setCell ⟨w.heap.size + 1, 7, none⟩ (.int .i64 prop)).setCell ⟨w.heap.size + 1, 8, none⟩ (.int .i64 vk)).setCell ⟨w.heap.size + 1, 9, none⟩ (.int .i64 vn)).setCell ⟨w.heap.size + 1, 10, none⟩ (.string vt)).setCell ⟨w.heap.size + 1, 11, none⟩ (.bool on)) = U at *
  refine wpAnyH_done (by kernel_rfl) ?_ _
  have zz := Z3.out.cs
  have z0 := zz.c0; have z1 := zz.c1; have z2 := zz.c2; have z3 := zz.c3; have z4 := zz.c4; have z5 := zz.c5; have z6 := zz.c6; have z7 := zz.c7; have z8 := zz.c8; have z9 := zz.c9; have z10 := zz.c10; have z11 := zz.c11
  clear zz
  dsimp only at z0 z1 z2 z3 z4 z5 z7 z8 z9 z10 z11
  go_wp2_with fail
  (try simp only [Exit.inBlock, Exit.then]); refine bodyPost_ret (v := opv (OpD.mk k n1 n2 r1 r2 key path prop vk vn vt on) A14 n c14) (by simp [results, show Tryd.f13.results = #[.cell 2 35] from rfl, go_sem, *]) rfl ?_
  exact ⟨⟨A14, c14, rfl, L3.out, HA3.out⟩, below_then W0.out B3.out⟩
end Go.Proofs.YtnakanophilfhaaDoor
/- BtO: Layer 8: a batch as it grows, op by op, in the statements' Own. -/
namespace Go.Proofs.YtnakanophilfhaaDoor
open Go.RowKit Go.Dio
set_option linter.unusedVariables false
set_option linter.unusedSimpArgs false
structure AcAt (w0 w : World) (R X : Nat) (x y z : Int) (A : Option Addr) (n c : Nat) (l : List OpV) : Prop where
  x : BAt w X x y z A n c
  r : BAt w R 0 0 0 none 0 0
  row : w.ownsRow w0.heap.size 35 12 (.slice A n c) n (ov l)
  nob : OwnAll noB w (.slice A n c)
  below : Below w0.heap.size w0 w
  leR : w0.heap.size ≤ R
  leX : w0.heap.size ≤ X
  ne : R ≠ X
  far : ∀ k, (Value.slice A n c).ownBlock = some k → k ≠ X ∧ k ≠ R
  each : ∀ p ∈ l, OpIs w p.d p.A p.n p.c
  far2 : ∀ p ∈ l, ∀ a, p.A = some a → w0.heap.size ≤ a.block ∧ a.block < w.heap.size ∧ a.block ≠ X ∧ a.block ≠ R ∧ (Value.slice A n c).ownBlock ≠ some a.block
section
variable {w0 w w' : World} {R X : Nat} {x y z : Int} {A : Option Addr} {n c : Nat} {l : List OpV}
theorem AcAt.bl (h : AcAt w0 w R X x y z A n c l) (hb : Below w.heap.size w w') : AcAt w0 w' R X x y z A n c l :=
  ⟨h.x.below hb, h.r.below hb, owns_below h.row hb, h.nob.kept fun g hg => hb.block g (h.row.lt g hg).2, below_then h.below hb, h.leR, h.leX, h.ne, h.far, fun p hp => (h.each p hp).below hb, fun p hp a ha => ⟨(h.far2 p hp a ha).1, Nat.lt_of_lt_of_le (h.far2 p hp a ha).2.1 hb.size, (h.far2 p hp a ha).2.2⟩⟩
theorem AcAt.drew (h : AcAt w0 w R X x y z A n c l) : AcAt w0 w.drew R X x y z A n c l := h.bl (Below.refl _ w).drew
theorem AcAt.ops (h : AcAt w0 w R X x y z A n c l) : IsOps w A n c l := by
  obtain ⟨A', c', e, h1, h2, h3, _⟩ := owns_form h.row
  cases e
  have hl := h.row.1
  rw [ov_length] at hl
  exact ⟨by omega, h1, h2, h3, h.each⟩
theorem AcAt.more (h : AcAt w0 w R X x y z A n c l) (p : OpV) (hp : OpIs w p.d p.A p.n p.c) (hpf : ∀ a, p.A = some a → w0.heap.size ≤ a.block ∧ a.block < w.heap.size ∧ a.block ≠ X ∧ a.block ≠ R ∧ (Value.slice A n c).ownBlock ≠ some a.block)
    {w2 : World} {A' : Option Addr} {c' : Nat} (hg : w.grownBy w2 (Value.slice A n c).ownBlock) (hrow : w2.ownsRow w0.heap.size 35 12 (.slice A' (n + 1) c') (n + 1) (ov l ++ ov [p]))
    (hnob : OwnAll noB w2 (.slice A' (n + 1) c')) (hat : (Value.slice A' (n + 1) c').ownBlock = (Value.slice A n c).ownBlock ∨ (Value.slice A' (n + 1) c').ownBlock = some w.heap.size) :
    BAt w2 X x y z A n c ∧ AcAt w0 (w2.setCell ⟨X, 3, none⟩ (.slice A' (n + 1) c')) R X x y z A' (n + 1) c' (l ++ [p]) := by
  have h2 := h.leR; have h3 := h.leX; have h4 := h.ne
  have hxl := h.x.lt; have hrl := h.r.lt
  have hX : BAt w2 X x y z A n c := h.x.grown hg (fun e => (h.far X e).1 rfl)
  have hR : BAt w2 R 0 0 0 none 0 0 := h.r.grown hg (fun e => (h.far R e).2 rfl)
  have hfar : ∀ k, (Value.slice A' (n + 1) c').ownBlock = some k → k ≠ X ∧ k ≠ R := fun k hk => by
    rcases hat with e | e
    · exact h.far k (by rw [← e]; exact hk)
    · rw [e] at hk; cases hk; omega
  have hk : ∀ k, k ≠ X → (w2.setCell ⟨X, 3, none⟩ (.slice A' (n + 1) c')).heap[k]? = w2.heap[k]? := fun k hk => Below.heap_setCell w2 ⟨X, 3, none⟩ _ k hk
  have gs := grown_set w2 X 3 (.slice A' (n + 1) c')
  have hall : ∀ q ∈ l ++ [p], OpIs w q.d q.A q.n q.c ∧ ∀ a, q.A = some a → w0.heap.size ≤ a.block ∧ a.block < w.heap.size ∧ a.block ≠ X ∧ a.block ≠ R ∧ (Value.slice A n c).ownBlock ≠ some a.block := by
    intro q hq
    rcases List.mem_append.1 hq with hq | hq
    · exact ⟨h.each q hq, h.far2 q hq⟩
    · rw [List.mem_singleton] at hq
      subst hq
      exact ⟨hp, hpf⟩
  have hbw : Below w0.heap.size w0 w2 := h.below.grown hg h.below.size (fun k hk => (h.row.lt k hk).1)
  refine ⟨hX, ⟨by rw [cellsT_set hX.own 3 _]; rfl⟩, ⟨by rw [hk R h4]; exact hR.own⟩, ?_, hnob.kept fun g hg => hk g (hfar g hg).1, hbw.grown gs hbw.size (fun k hk => by cases hk; exact h3), h2, h3, h4, hfar, fun q hq => ?_, fun q hq a ha => ?_⟩
  · rw [ov_append]
    refine hrow.kept (row := some X) gs ?_
    rcases e : (Value.slice A' (n + 1) c').ownBlock with _ | k
    · exact .inl rfl
    · exact .inr (by simp; exact (hfar k e).1)
  · obtain ⟨q1, q2⟩ := hall q hq
    refine q1.move fun a ha => ?_
    have q3 := q2 a ha
    rw [hk a.block q3.2.2.1]
    exact hg.block _ q3.2.1 (fun e => q3.2.2.2.2 e.symm)
  · obtain ⟨q1, q2⟩ := hall q hq
    have q3 := q2 a ha
    refine ⟨q3.1, Nat.lt_of_lt_of_le q3.2.1 (Nat.le_trans hg.size gs.size), q3.2.2.1, q3.2.2.2.1, fun e => ?_⟩
    rcases hat with e2 | e2
    · exact q3.2.2.2.2 (by rw [← e2]; exact e)
    · rw [e2] at e
      have e3 := Option.some.inj e
      omega
theorem AcAt.out (h : AcAt w0 w R X x y z A n c l) : BAt (outB w R x y z A n c) R x y z A n c ∧ Below w0.heap.size w0 (outB w R x y z A n c) ∧ IsOps (outB w R x y z A n c) A n c l := by
  have hk := outB_other w R x y z A n c
  have ho := h.ops
  refine ⟨h.r.set4 .., h.below.grown (outB_grown w R x y z A n c) h.below.size (fun k hk => by cases hk; exact h.leR), ho.len, ho.cap, ho.max, ho.cells.move fun a ha => hk a.block ?_, fun p hp => (ho.each p hp).move fun a ha => hk a.block ?_⟩
  · subst ha; exact (h.far a.block rfl).2
  · exact (h.far2 p hp a ha).2.2.2.1
end
/-- The statements' Own keeps what the op is; and its new path's row is new. -/
theorem Own7_n (p : OpV) (w : World) (h : OpIs w p.d p.A p.n p.c) (hn : p.n ≤ 500) : Calls Tryd.prog 13 #[opv p.d p.A p.n p.c] w fun e w' => (∃ A' c', e = .returned (opv p.d A' p.n c') ∧ OpIs w' p.d A' p.n c' ∧ ∀ a, A' = some a → w.heap.size ≤ a.block ∧ a.block < w'.heap.size) ∧ Below w.heap.size w w' :=
  (Own7_anyN p.d.k p.d.n1 p.d.n2 p.d.r1 p.d.r2 p.d.key p.d.path p.d.prop p.d.vk p.d.vn p.d.vt p.d.on p.A p.n p.c w h.st hn).mono fun e w' ⟨⟨A', c', e1, h1, h2⟩, hb⟩ => ⟨⟨A', c', e1, ⟨h1, h.key, h.vt⟩, h2⟩, hb⟩
end Go.Proofs.YtnakanophilfhaaDoor
/- BtF: Layer 8: the statements' Own and Light. -/
namespace Go.Proofs.YtnakanophilfhaaDoor
open Go.RowKit Go.Dio
set_option linter.unusedVariables false
set_option linter.unusedSimpArgs false

theorem num8_any (k : Int) (w : World) : Calls Tryd.prog 40 #[.int .i64 k] w fun e w' => e = .returned (.int .i64 k) ∧ w = w' := by
  refine frCall (args := [.int .i64 k]) (N := 4) Tryd.func40 rfl rfl rfl (fun a0 F0 => ?_)
  refine wp_seq ?_
  refine kGo ?_
  refine kMove F0 rfl rfl rfl rfl rfl (fun a1 F1 => ?_)
  clear F0 a0
  refine kFin rfl ?_
  refine frNext ?_
  refine wp_seq ?_
  refine kGo ?_
  refine kMove F1 rfl rfl rfl rfl rfl (fun a2 F2 => ?_)
  clear F1 a1
  refine kMove F2 rfl rfl rfl rfl rfl (fun a3 F3 => ?_)
  clear F2 a2
  refine kFin rfl ?_
  refine frNext ?_
  refine wp_ret ?_
  exact frRet1 rfl F3 rfl ⟨rfl, rfl⟩
set_option maxRecDepth 100000 in
set_option maxHeartbeats 4000000 in
theorem Light8_any (x y z : Int) (A : Option Addr) (n c : Nat) (l : List OpV) (w : World) (h : IsOps w A n c l) :
    Calls Tryd.prog 35 #[btv x y z A n c] w fun e w' => ∃ r : Bool, e = .returned (.bool r) ∧ (r = true → n ≤ 70 ∧ ∀ p ∈ l, p.n ≤ 500) ∧ Below w.heap.size w w' := by
  have hl := h.len
  have hcap := h.cap
  have hmax := h.max
  have HB := Below.refl w.heap.size w
  refine frCall (args := [btv x y z A n c]) (N := 48) Tryd.func35 rfl rfl rfl (fun a0 F0 => ?_)
  refine wp_seq ?_
  refine kGo ?_
  refine kVal (v := ?v1) (w' := w.alloc (.cells (bxs x y z A n c) 60)) F0 rfl rfl rfl rfl ?y1 (fun a1 F1 => ?h1)
  case y1 =>
    have e0 := F0.ev 0 rfl; have g0 := F0.get 0 _ rfl
    go_simp
    all_goals (first | with_reducible rfl | (constructor <;> first | with_reducible rfl | rfl) | skip)
  clear F0 a0
  refine kMove F1 rfl rfl rfl rfl rfl (fun a2 F2 => ?_)
  clear F1 a1
  have F3 := F2.sub (l' := [(1, .pointer (some ⟨w.heap.size, 0, none⟩))]) ⟨rfl, trivial⟩
  clear F2
  have hb := below_alloc1 w (.cells (bxs x y z A n c) 60)
  have y3 : (w.alloc (.cells (bxs x y z A n c) 60)).cell? ⟨w.heap.size, 3, none⟩ = some (.slice A n c) := cell_of (new_at w (.cells (bxs x y z A n c) 60)) 3 rfl
  replace h := h.below hb
  replace HB := below_then HB hb
  clear hb
  generalize w.alloc (.cells (bxs x y z A n c) 60) = w1 at *
  refine kFin rfl ?_
  refine frNext ?_
  refine wp_seq ?_
  refine wp_seq ?_
  refine kGo ?_
  refine kMove F3 rfl rfl rfl rfl rfl (fun a4 F4 => ?_)
  clear F3 a2
  have F5 := F4.sub (l' := [(1, .pointer (some ⟨w.heap.size, 0, none⟩)), (3, .int .i64 0)]) ⟨rfl, rfl, trivial⟩
  clear F4
  refine kFin rfl ?_
  refine frNext ?_
  refine frBlock ?_
  have HH := hid h
  clear h
  refine wp_loop (fun aL wL => ∃ (i : Nat), i ≤ n ∧ i ≤ 80 ∧ Fr aL 48 [(1, .pointer (some ⟨w.heap.size, 0, none⟩)), (3, .int .i64 (i : Int))] ∧ (∀ j p, j < i → l[j]? = some p → p.n ≤ 500) ∧ wL = w1) (fun aL _ => n - (intOf (aL.tmps.getD 3 undef)).toNat) ?st ?rd
  case st => exact ⟨0, by omega, by omega, F5, fun j p hj => absurd hj (by omega), rfl⟩
  case rd =>
    clear F5 a4
    rintro aL wL ⟨i, hi, hi8, FL, hj, rfl⟩
    have HJ := hid hj
    clear hj
    rw [show intOf (aL.tmps.getD 3 undef) = (i : Int) by rw [FL.ev 3 rfl]; rfl]
    refine wp_seq ?_
    refine wp_seq ?_
    refine kGo ?_
    refine kMove FL rfl rfl rfl rfl rfl (fun a6 F6 => ?_)
    clear FL aL
    refine kTake (v := ?v7) F6 rfl rfl rfl rfl ?y7 (fun a7 F7 => ?h7)
    case y7 =>
      have e1 := F6.ev 1 rfl; have g1 := F6.get 1 _ rfl
      go_simp; try with_reducible rfl
    clear F6 a6
    refine kTake (v := ?v8) F7 rfl rfl rfl rfl ?y8 (fun a8 F8 => ?h8)
    case y8 =>
      skip; have e5 := F7.ev 5 rfl; have g5 := F7.get 5 _ rfl
      go_simp; try with_reducible rfl
    clear F7 a7
    refine kTake (v := ?v9) F8 rfl rfl rfl rfl ?y9 (fun a9 F9 => ?h9)
    case y9 =>
      have e6 := F8.ev 6 rfl; have g6 := F8.get 6 _ rfl
      go_simp; try with_reducible rfl
    clear F8 a8
    by_cases hgo : i < n ∧ i < 80
    · skip
      obtain ⟨hlt, hlt8⟩ := hgo
      refine kTake (v := .bool true) F9 rfl rfl rfl rfl ?y10 (fun a10 F10 => ?h10)
      case y10 =>
        have e4 := F9.ev 4 rfl; have g4 := F9.get 4 _ rfl; have e7 := F9.ev 7 rfl; have g7 := F9.get 7 _ rfl
        first | (go_simp; done) | (go_simp; omega)
      clear F9 a9
      refine kMove F10 rfl rfl rfl rfl rfl (fun a11 F11 => ?_)
      clear F10 a10
      refine kMove F11 rfl rfl rfl rfl rfl (fun a12 F12 => ?_)
      clear F11 a11
      refine kTake (v := .bool true) F12 rfl rfl rfl rfl ?y13 (fun a13 F13 => ?h13)
      case y13 =>
        have e10 := F12.ev 10 rfl; have g10 := F12.get 10 _ rfl
        first | (go_simp; done) | (go_simp; omega)
      clear F12 a12
      refine kMove F13 rfl rfl rfl rfl rfl (fun a14 F14 => ?_)
      clear F13 a13
      refine kFin rfl ?_
      refine frNext ?_
      refine frCond (b := true) F14 rfl ?_
      simp only [if_true]
      refine wp_skip ?_
      refine frNext ?_
      refine wp_seq ?_
      refine frBlock ?_
      refine wp_seq ?_
      obtain ⟨bb, oo', hA, hx⟩ := HH.out.at_ (by omega)
      obtain ⟨p, hp⟩ : ∃ p, l[i]? = some p := ⟨_, List.getElem?_eq_getElem (by omega)⟩
      have hz := hx i p hp
      have HP := hid hp
      subst hA
      clear hx hp
      have F15 := F14.sub (l' := [(1, .pointer (some ⟨w.heap.size, 0, none⟩)), (3, .int .i64 (i : Int))]) ⟨rfl, rfl, trivial⟩
      clear F14
      refine kGo ?_
      refine kTake (v := ?v16) F15 rfl rfl rfl rfl ?y16 (fun a16 F16 => ?h16)
      case y16 =>
        have e1 := F15.ev 1 rfl; have g1 := F15.get 1 _ rfl
        go_simp; try with_reducible rfl
      clear F15 a14
      refine kTake (v := ?v17) F16 rfl rfl rfl rfl ?y17 (fun a17 F17 => ?h17)
      case y17 =>
        have e15 := F16.ev 15 rfl; have g15 := F16.get 15 _ rfl
        go_simp; try with_reducible rfl
      clear F16 a16
      refine kMove F17 rfl rfl rfl rfl rfl (fun a18 F18 => ?_)
      clear F17 a17
      refine kTake (v := ?v19) F18 rfl rfl rfl rfl ?y19 (fun a19 F19 => ?h19)
      case y19 =>
        have e16 := F18.ev 16 rfl; have g16 := F18.get 16 _ rfl; have e17 := F18.ev 17 rfl; have g17 := F18.get 17 _ rfl
        first | (go_simp; done) | (go_simp; omega) | (go_simp; try with_reducible rfl)
      clear F18 a18
      refine kTake (v := ?v20) F19 rfl rfl rfl rfl ?y20 (fun a20 F20 => ?h20)
      case y20 =>
        have e18 := F19.ev 18 rfl; have g18 := F19.get 18 _ rfl
        go_simp; try with_reducible rfl
      clear F19 a19
      refine kTake (v := ?v21) F20 rfl rfl rfl rfl ?y21 (fun a21 F21 => ?h21)
      case y21 =>
        have z6 := hz.c6; have e19 := F20.ev 19 rfl; have g19 := F20.get 19 _ rfl
        go_simp; try with_reducible rfl
      clear F20 a20
      refine kTake (v := ?v22) F21 rfl rfl rfl rfl ?y22 (fun a22 F22 => ?h22)
      case y22 =>
        have e20 := F21.ev 20 rfl; have g20 := F21.get 20 _ rfl
        go_simp; try with_reducible rfl
      clear F21 a21
      by_cases h50 : 50 < p.n
      · skip
        refine kTake (v := .bool true) F22 rfl rfl rfl rfl ?y23 (fun a23 F23 => ?h23)
        case y23 =>
          have e21 := F22.ev 21 rfl; have g21 := F22.get 21 _ rfl
          first | (go_simp; done) | (go_simp; omega)
        clear F22 a22
        refine kMove F23 rfl rfl rfl rfl rfl (fun a24 F24 => ?_)
        clear F23 a23
        refine kNot F24 rfl rfl rfl rfl (fun a25 F25 => ?_)
        clear F24 a24
        refine kNot F25 rfl rfl rfl rfl (fun a26 F26 => ?_)
        clear F25 a25
        refine kNot F26 rfl rfl rfl rfl (fun a27 F27 => ?_)
        clear F26 a26
        refine kNot F27 rfl rfl rfl rfl (fun a28 F28 => ?_)
        clear F27 a27
        refine kNot F28 rfl rfl rfl rfl (fun a29 F29 => ?_)
        clear F28 a28
        refine kNot F29 rfl rfl rfl rfl (fun a30 F30 => ?_)
        clear F29 a29
        refine kNot F30 rfl rfl rfl rfl (fun a31 F31 => ?_)
        clear F30 a30
        refine kNot F31 rfl rfl rfl rfl (fun a32 F32 => ?_)
        clear F31 a31
        refine kMove F32 rfl rfl rfl rfl rfl (fun a33 F33 => ?_)
        clear F32 a32
        refine kMove F33 rfl rfl rfl rfl rfl (fun a34 F34 => ?_)
        clear F33 a33
        refine kNot F34 rfl rfl rfl rfl (fun a35 F35 => ?_)
        clear F34 a34
        refine kNot F35 rfl rfl rfl rfl (fun a36 F36 => ?_)
        clear F35 a35
        refine kNot F36 rfl rfl rfl rfl (fun a37 F37 => ?_)
        clear F36 a36
        refine kNot F37 rfl rfl rfl rfl (fun a38 F38 => ?_)
        clear F37 a37
        refine kNot F38 rfl rfl rfl rfl (fun a39 F39 => ?_)
        clear F38 a38
        refine kNot F39 rfl rfl rfl rfl (fun a40 F40 => ?_)
        clear F39 a39
        refine kNot F40 rfl rfl rfl rfl (fun a41 F41 => ?_)
        clear F40 a40
        refine kNot F41 rfl rfl rfl rfl (fun a42 F42 => ?_)
        clear F41 a41
        refine kNot F42 rfl rfl rfl rfl (fun a43 F43 => ?_)
        clear F42 a42
        refine kMove F43 rfl rfl rfl rfl rfl (fun a44 F44 => ?_)
        clear F43 a43
        refine kFin rfl ?_
        refine frNext ?_
        refine frCond (b := true) F44 rfl ?_
        simp only [if_true]
        refine wp_seq ?_
        refine kGo ?_
        refine kMove F44 rfl rfl rfl rfl rfl (fun a45 F45 => ?_)
        clear F44 a44
        refine kFin rfl ?_
        refine frNext ?_
        refine wp_ret ?_
        refine frBlkRet ?_
        refine frThenRet ?_
        refine frThenRet ?_
        refine frBlkRet ?_
        refine frThenRet ?_
        exact frRet1 rfl F45 rfl ⟨_, rfl, fun h => (by cases h), HB⟩
      · skip
        refine kTake (v := .bool false) F22 rfl rfl rfl rfl ?y46 (fun a46 F46 => ?h46)
        case y46 =>
          have e21 := F22.ev 21 rfl; have g21 := F22.get 21 _ rfl
          first | (go_simp; done) | (go_simp; omega)
        clear F22 a22
        refine kMove F46 rfl rfl rfl rfl rfl (fun a47 F47 => ?_)
        clear F46 a46
        refine kTake (v := ?v48) F47 rfl rfl rfl rfl ?y48 (fun a48 F48 => ?h48)
        case y48 =>
          have e1 := F47.ev 1 rfl; have g1 := F47.get 1 _ rfl
          go_simp; try with_reducible rfl
        clear F47 a47
        refine kTake (v := ?v49) F48 rfl rfl rfl rfl ?y49 (fun a49 F49 => ?h49)
        case y49 =>
          have e24 := F48.ev 24 rfl; have g24 := F48.get 24 _ rfl
          go_simp; try with_reducible rfl
        clear F48 a48
        refine kMove F49 rfl rfl rfl rfl rfl (fun a50 F50 => ?_)
        clear F49 a49
        refine kTake (v := ?v51) F50 rfl rfl rfl rfl ?y51 (fun a51 F51 => ?h51)
        case y51 =>
          have e25 := F50.ev 25 rfl; have g25 := F50.get 25 _ rfl; have e26 := F50.ev 26 rfl; have g26 := F50.get 26 _ rfl
          first | (go_simp; done) | (go_simp; omega) | (go_simp; try with_reducible rfl)
        clear F50 a50
        refine kTake (v := ?v52) F51 rfl rfl rfl rfl ?y52 (fun a52 F52 => ?h52)
        case y52 =>
          have e27 := F51.ev 27 rfl; have g27 := F51.get 27 _ rfl
          go_simp; try with_reducible rfl
        clear F51 a51
        refine kTake (v := ?v53) F52 rfl rfl rfl rfl ?y53 (fun a53 F53 => ?h53)
        case y53 =>
          have z5 := hz.c5; have e28 := F52.ev 28 rfl; have g28 := F52.get 28 _ rfl
          go_simp; try with_reducible rfl
        clear F52 a52
        refine kTake (v := ?v54) F53 rfl rfl rfl rfl ?y54 (fun a54 F54 => ?h54)
        case y54 =>
          have e29 := F53.ev 29 rfl; have g29 := F53.get 29 _ rfl
          go_simp; try with_reducible rfl
        clear F53 a53
        by_cases hk5 : (500 : Int) < (p.d.key.size : Int)
        · skip
          refine kTake (v := .bool true) F54 rfl rfl rfl rfl ?y55 (fun a55 F55 => ?h55)
          case y55 =>
            have e30 := F54.ev 30 rfl; have g30 := F54.get 30 _ rfl
            first | (go_simp; done) | (go_simp; omega)
          clear F54 a54
          refine kMove F55 rfl rfl rfl rfl rfl (fun a56 F56 => ?_)
          clear F55 a55
          refine kMove F56 rfl rfl rfl rfl rfl (fun a57 F57 => ?_)
          clear F56 a56
          refine kNot F57 rfl rfl rfl rfl (fun a58 F58 => ?_)
          clear F57 a57
          refine kNot F58 rfl rfl rfl rfl (fun a59 F59 => ?_)
          clear F58 a58
          refine kNot F59 rfl rfl rfl rfl (fun a60 F60 => ?_)
          clear F59 a59
          refine kNot F60 rfl rfl rfl rfl (fun a61 F61 => ?_)
          clear F60 a60
          refine kNot F61 rfl rfl rfl rfl (fun a62 F62 => ?_)
          clear F61 a61
          refine kNot F62 rfl rfl rfl rfl (fun a63 F63 => ?_)
          clear F62 a62
          refine kNot F63 rfl rfl rfl rfl (fun a64 F64 => ?_)
          clear F63 a63
          refine kNot F64 rfl rfl rfl rfl (fun a65 F65 => ?_)
          clear F64 a64
          refine kNot F65 rfl rfl rfl rfl (fun a66 F66 => ?_)
          clear F65 a65
          refine kMove F66 rfl rfl rfl rfl rfl (fun a67 F67 => ?_)
          clear F66 a66
          refine kFin rfl ?_
          refine frNext ?_
          refine frCond (b := true) F67 rfl ?_
          simp only [if_true]
          refine wp_seq ?_
          refine kGo ?_
          refine kMove F67 rfl rfl rfl rfl rfl (fun a68 F68 => ?_)
          clear F67 a67
          refine kFin rfl ?_
          refine frNext ?_
          refine wp_ret ?_
          refine frBlkRet ?_
          refine frThenRet ?_
          refine frThenRet ?_
          refine frBlkRet ?_
          refine frThenRet ?_
          exact frRet1 rfl F68 rfl ⟨_, rfl, fun h => (by cases h), HB⟩
        · skip
          refine kTake (v := .bool false) F54 rfl rfl rfl rfl ?y69 (fun a69 F69 => ?h69)
          case y69 =>
            have e30 := F54.ev 30 rfl; have g30 := F54.get 30 _ rfl
            first | (go_simp; done) | (go_simp; omega)
          clear F54 a54
          refine kMove F69 rfl rfl rfl rfl rfl (fun a70 F70 => ?_)
          clear F69 a69
          refine kMove F70 rfl rfl rfl rfl rfl (fun a71 F71 => ?_)
          clear F70 a70
          refine kTake (v := ?v72) F71 rfl rfl rfl rfl ?y72 (fun a72 F72 => ?h72)
          case y72 =>
            have e1 := F71.ev 1 rfl; have g1 := F71.get 1 _ rfl
            go_simp; try with_reducible rfl
          clear F71 a71
          refine kTake (v := ?v73) F72 rfl rfl rfl rfl ?y73 (fun a73 F73 => ?h73)
          case y73 =>
            have e34 := F72.ev 34 rfl; have g34 := F72.get 34 _ rfl
            go_simp; try with_reducible rfl
          clear F72 a72
          refine kMove F73 rfl rfl rfl rfl rfl (fun a74 F74 => ?_)
          clear F73 a73
          refine kTake (v := ?v75) F74 rfl rfl rfl rfl ?y75 (fun a75 F75 => ?h75)
          case y75 =>
            have e35 := F74.ev 35 rfl; have g35 := F74.get 35 _ rfl; have e36 := F74.ev 36 rfl; have g36 := F74.get 36 _ rfl
            first | (go_simp; done) | (go_simp; omega) | (go_simp; try with_reducible rfl)
          clear F74 a74
          refine kTake (v := ?v76) F75 rfl rfl rfl rfl ?y76 (fun a76 F76 => ?h76)
          case y76 =>
            have e37 := F75.ev 37 rfl; have g37 := F75.get 37 _ rfl
            go_simp; try with_reducible rfl
          clear F75 a75
          refine kTake (v := ?v77) F76 rfl rfl rfl rfl ?y77 (fun a77 F77 => ?h77)
          case y77 =>
            have e38 := F76.ev 38 rfl; have g38 := F76.get 38 _ rfl
            go_simp; try with_reducible rfl
          clear F76 a76
          refine kTake (v := ?v78) F77 rfl rfl rfl rfl ?y78 (fun a78 F78 => ?h78)
          case y78 =>
            have z10 := hz.c10; have e39 := F77.ev 39 rfl; have g39 := F77.get 39 _ rfl
            go_simp; try with_reducible rfl
          clear F77 a77
          refine kTake (v := ?v79) F78 rfl rfl rfl rfl ?y79 (fun a79 F79 => ?h79)
          case y79 =>
            have e40 := F78.ev 40 rfl; have g40 := F78.get 40 _ rfl
            go_simp; try with_reducible rfl
          clear F78 a78
          by_cases hv5 : (500 : Int) < (p.d.vt.size : Int)
          · skip
            refine kTake (v := .bool true) F79 rfl rfl rfl rfl ?y80 (fun a80 F80 => ?h80)
            case y80 =>
              have e41 := F79.ev 41 rfl; have g41 := F79.get 41 _ rfl
              first | (go_simp; done) | (go_simp; omega)
            clear F79 a79
            refine kMove F80 rfl rfl rfl rfl rfl (fun a81 F81 => ?_)
            clear F80 a80
            refine kFin rfl ?_
            refine frNext ?_
            refine frCond (b := true) F81 rfl ?_
            simp only [if_true]
            refine wp_seq ?_
            refine kGo ?_
            refine kMove F81 rfl rfl rfl rfl rfl (fun a82 F82 => ?_)
            clear F81 a81
            refine kFin rfl ?_
            refine frNext ?_
            refine wp_ret ?_
            refine frBlkRet ?_
            refine frThenRet ?_
            refine frThenRet ?_
            refine frBlkRet ?_
            refine frThenRet ?_
            exact frRet1 rfl F82 rfl ⟨_, rfl, fun h => (by cases h), HB⟩
          · skip
            refine kTake (v := .bool false) F79 rfl rfl rfl rfl ?y83 (fun a83 F83 => ?h83)
            case y83 =>
              have e41 := F79.ev 41 rfl; have g41 := F79.get 41 _ rfl
              first | (go_simp; done) | (go_simp; omega)
            clear F79 a79
            refine kMove F83 rfl rfl rfl rfl rfl (fun a84 F84 => ?_)
            clear F83 a83
            have F85 := F84.sub (l' := [(1, .pointer (some ⟨w.heap.size, 0, none⟩)), (3, .int .i64 (i : Int)), (43, .bool false)]) ⟨rfl, rfl, rfl, trivial⟩
            clear F84
            refine kFin rfl ?_
            refine frNext ?_
            refine frCond (b := false) F85 rfl ?_
            simp only [Bool.false_eq_true, if_false]
            refine wp_skip ?_
            refine frBlkN ?_
            refine frNext ?_
            refine kGo ?_
            refine kMove F85 rfl rfl rfl rfl rfl (fun a86 F86 => ?_)
            clear F85 a84
            refine kTake (v := .int .i64 ((i + 1 : Nat) : Int)) F86 rfl rfl rfl rfl ?y87 (fun a87 F87 => ?h87)
            case y87 =>
              have e13 := F86.ev 13 rfl; have g13 := F86.get 13 _ rfl
              first | (go_simp; done) | (go_simp; simp only [IntKind.wrap_i64]; omega)
            clear F86 a86
            refine kMove F87 rfl rfl rfl rfl rfl (fun a88 F88 => ?_)
            clear F87 a87
            have F89 := F88.sub (l' := [(1, .pointer (some ⟨w.heap.size, 0, none⟩)), (3, .int .i64 ((i + 1 : Nat) : Int))]) ⟨rfl, rfl, trivial⟩
            clear F88
            refine kFin rfl ?_
            refine frThenN ⟨⟨i + 1, by omega, by omega, F89, fun j q hj hq => ?_, rfl⟩, ?_⟩
            · by_cases e : j = i
              · subst e
                have e1 := HP.out.symm.trans hq
                cases e1
                omega
              · exact HJ.out j q (by omega) hq
            · rw [show intOf (a88.tmps.getD 3 undef) = ((i + 1 : Nat) : Int) by rw [F89.ev 3 rfl]; rfl]
              omega
    · skip
      have hfin : n ≤ 70 → ∀ p ∈ l, p.n ≤ 500 := fun h7 p hp => by
        obtain ⟨j, hj⟩ := List.getElem?_of_mem hp
        have := (List.getElem?_eq_some_iff.1 hj).1
        exact HJ.out j p (by omega) hj
      by_cases hlt : i < n
      · skip
        refine kTake (v := .bool true) F9 rfl rfl rfl rfl ?y90 (fun a90 F90 => ?h90)
        case y90 =>
          have e4 := F9.ev 4 rfl; have g4 := F9.get 4 _ rfl; have e7 := F9.ev 7 rfl; have g7 := F9.get 7 _ rfl
          first | (go_simp; done) | (go_simp; omega)
        clear F9 a9
        refine kMove F90 rfl rfl rfl rfl rfl (fun a91 F91 => ?_)
        clear F90 a90
        refine kMove F91 rfl rfl rfl rfl rfl (fun a92 F92 => ?_)
        clear F91 a91
        refine kTake (v := .bool false) F92 rfl rfl rfl rfl ?y93 (fun a93 F93 => ?h93)
        case y93 =>
          have e10 := F92.ev 10 rfl; have g10 := F92.get 10 _ rfl
          first | (go_simp; done) | (go_simp; omega)
        clear F92 a92
        refine kMove F93 rfl rfl rfl rfl rfl (fun a94 F94 => ?_)
        clear F93 a93
        refine kFin rfl ?_
        refine frNext ?_
        refine frCond (b := false) F94 rfl ?_
        simp only [Bool.false_eq_true, if_false]
        refine wp_exit ?_
        refine frThenE ?_
        refine frThenE ?_
        refine frBlkE ?_
        refine frNext ?_
        refine wp_seq ?_
        have F95 := F94.sub (l' := [(1, .pointer (some ⟨w.heap.size, 0, none⟩))]) ⟨rfl, trivial⟩
        clear F94
        refine kGo ?_
        refine kTake (v := ?v96) F95 rfl rfl rfl rfl ?y96 (fun a96 F96 => ?h96)
        case y96 =>
          have e1 := F95.ev 1 rfl; have g1 := F95.get 1 _ rfl
          go_simp; try with_reducible rfl
        clear F95 a94
        refine kTake (v := ?v97) F96 rfl rfl rfl rfl ?y97 (fun a97 F97 => ?h97)
        case y97 =>
          skip; have e44 := F96.ev 44 rfl; have g44 := F96.get 44 _ rfl
          go_simp; try with_reducible rfl
        clear F96 a96
        refine kTake (v := ?v98) F97 rfl rfl rfl rfl ?y98 (fun a98 F98 => ?h98)
        case y98 =>
          have e45 := F97.ev 45 rfl; have g45 := F97.get 45 _ rfl
          go_simp; try with_reducible rfl
        clear F97 a97
        refine kTake (v := .bool (decide ((n : Int) ≤ 70))) F98 rfl rfl rfl rfl ?y99 (fun a99 F99 => ?h99)
        case y99 =>
          have e46 := F98.ev 46 rfl; have g46 := F98.get 46 _ rfl
          go_simp; try with_reducible rfl
        clear F98 a98
        refine kMove F99 rfl rfl rfl rfl rfl (fun a100 F100 => ?_)
        clear F99 a99
        refine kFin rfl ?_
        refine frNext ?_
        refine wp_ret ?_
        exact frRet1 rfl F100 rfl ⟨_, rfl, fun h => (by
          have h7 : (n : Int) ≤ 70 := by simpa using h
          replace h7 : n ≤ 70 := by omega
          exact ⟨h7, hfin h7⟩), HB⟩
      · skip
        refine kTake (v := .bool false) F9 rfl rfl rfl rfl ?y101 (fun a101 F101 => ?h101)
        case y101 =>
          have e4 := F9.ev 4 rfl; have g4 := F9.get 4 _ rfl; have e7 := F9.ev 7 rfl; have g7 := F9.get 7 _ rfl
          first | (go_simp; done) | (go_simp; omega)
        clear F9 a9
        refine kMove F101 rfl rfl rfl rfl rfl (fun a102 F102 => ?_)
        clear F101 a101
        refine kNot F102 rfl rfl rfl rfl (fun a103 F103 => ?_)
        clear F102 a102
        refine kNot F103 rfl rfl rfl rfl (fun a104 F104 => ?_)
        clear F103 a103
        refine kMove F104 rfl rfl rfl rfl rfl (fun a105 F105 => ?_)
        clear F104 a104
        refine kFin rfl ?_
        refine frNext ?_
        refine frCond (b := false) F105 rfl ?_
        simp only [Bool.false_eq_true, if_false]
        refine wp_exit ?_
        refine frThenE ?_
        refine frThenE ?_
        refine frBlkE ?_
        refine frNext ?_
        refine wp_seq ?_
        have F106 := F105.sub (l' := [(1, .pointer (some ⟨w.heap.size, 0, none⟩))]) ⟨rfl, trivial⟩
        clear F105
        refine kGo ?_
        refine kTake (v := ?v107) F106 rfl rfl rfl rfl ?y107 (fun a107 F107 => ?h107)
        case y107 =>
          have e1 := F106.ev 1 rfl; have g1 := F106.get 1 _ rfl
          go_simp; try with_reducible rfl
        clear F106 a105
        refine kTake (v := ?v108) F107 rfl rfl rfl rfl ?y108 (fun a108 F108 => ?h108)
        case y108 =>
          skip; have e44 := F107.ev 44 rfl; have g44 := F107.get 44 _ rfl
          go_simp; try with_reducible rfl
        clear F107 a107
        refine kTake (v := ?v109) F108 rfl rfl rfl rfl ?y109 (fun a109 F109 => ?h109)
        case y109 =>
          have e45 := F108.ev 45 rfl; have g45 := F108.get 45 _ rfl
          go_simp; try with_reducible rfl
        clear F108 a108
        refine kTake (v := .bool (decide ((n : Int) ≤ 70))) F109 rfl rfl rfl rfl ?y110 (fun a110 F110 => ?h110)
        case y110 =>
          have e46 := F109.ev 46 rfl; have g46 := F109.get 46 _ rfl
          go_simp; try with_reducible rfl
        clear F109 a109
        refine kMove F110 rfl rfl rfl rfl rfl (fun a111 F111 => ?_)
        clear F110 a110
        refine kFin rfl ?_
        refine frNext ?_
        refine wp_ret ?_
        exact frRet1 rfl F111 rfl ⟨_, rfl, fun h => (by
          have h7 : (n : Int) ≤ 70 := by simpa using h
          replace h7 : n ≤ 70 := by omega
          exact ⟨h7, hfin h7⟩), HB⟩
end Go.Proofs.YtnakanophilfhaaDoor
/- BtH: Layer 8: the statements' Own of a batch. -/
namespace Go.Proofs.YtnakanophilfhaaDoor
open Go.RowKit Go.Dio
set_option linter.unusedVariables false
set_option linter.unusedSimpArgs false

set_option maxRecDepth 100000 in
set_option maxHeartbeats 4000000 in
theorem Own8_any (b : BtD) (A : Option Addr) (n c : Nat) (l : List OpV) (w : World) (h : BtIs w b A n c l) (hn : n ≤ 70) (hp : ∀ p ∈ l, p.n ≤ 500) :
    Calls Tryd.prog 37 #[btv b.rep b.seq b.time A n c] w fun e w' => ∃ A' c' l', e = .returned (btv b.rep b.seq b.time A' n c') ∧ BtIs w' b A' n c' l' ∧ Below w.heap.size w w' := by
  have hl := h.ops.len
  have hcap := h.ops.cap
  have hmax := h.ops.max
  have HEQ := hid h.eq
  have HB := Below.refl w.heap.size w
  have h := h.ops
  have H0 := hid h
  have HPN := hid hp
  clear hp
  obtain ⟨x, hx⟩ : ∃ x, b.rep = x := ⟨_, rfl⟩
  obtain ⟨y, hy⟩ : ∃ x, b.seq = x := ⟨_, rfl⟩
  obtain ⟨z, hz⟩ : ∃ x, b.time = x := ⟨_, rfl⟩
  rw [hx, hy, hz]
  clear hx hy hz
  refine frCall (args := [btv x y z A n c]) (N := 31) Tryd.func37 rfl rfl rfl (fun a0 F0 => ?_)
  refine wp_seq ?_
  refine kGo ?_
  refine kVal (v := ?v1) (w' := w.alloc (.cells (bxs x y z A n c) 60)) F0 rfl rfl rfl rfl ?y1 (fun a1 F1 => ?h1)
  case y1 =>
    have e0 := F0.ev 0 rfl; have g0 := F0.get 0 _ rfl
    go_simp
    all_goals (first | with_reducible rfl | (constructor <;> first | with_reducible rfl | rfl) | skip)
  clear F0 a0
  have hb := below_alloc1 w (.cells (bxs x y z A n c) 60)
  have SX : BCells (w.alloc (.cells (bxs x y z A n c) 60)) w.heap.size x y z A n c := ⟨cell_of (new_at w (.cells (bxs x y z A n c) 60)) 0 rfl, cell_of (new_at w (.cells (bxs x y z A n c) 60)) 1 rfl, cell_of (new_at w (.cells (bxs x y z A n c) 60)) 2 rfl, cell_of (new_at w (.cells (bxs x y z A n c) 60)) 3 rfl⟩
  replace h := h.below hb
  replace HB := below_then HB hb
  clear hb
  generalize w.alloc (.cells (bxs x y z A n c) 60) = w1 at *
  refine kVal (v := ?v2) (w' := w1.alloc (bto 0 0 0 none 0 0)) F1 rfl rfl rfl rfl ?y2 (fun a2 F2 => ?h2)
  case y2 =>
    skip
    go_simp
    all_goals (first | with_reducible rfl | (constructor <;> first | with_reducible rfl | rfl) | skip)
  clear F1 a1
  have hb := below_alloc1 w1 (bto 0 0 0 none 0 0)
  have OR := BAt.new w1 0 0 0 none 0 0 _ rfl
  have hRl := HB.size
  replace h := h.below hb
  replace SX := SX.below hb
  replace HB := below_then HB hb
  clear hb
  generalize hRR : w1.heap.size = RR at *
  clear hRR
  generalize w1.alloc (bto 0 0 0 none 0 0) = w2 at *
  have F3 := F2.sub (l' := [(1, .pointer (some ⟨w.heap.size, 0, none⟩)), (2, .pointer (some ⟨RR, 0, none⟩))]) ⟨rfl, rfl, trivial⟩
  clear F2
  refine kFin rfl ?_
  refine frNext ?_
  refine wp_seq ?_
  refine kGo ?_
  refine kTake (v := ?v4) F3 rfl rfl rfl rfl ?y4 (fun a4 F4 => ?h4)
  case y4 =>
    have e1 := F3.ev 1 rfl; have g1 := F3.get 1 _ rfl
    go_simp; try with_reducible rfl
  clear F3 a2
  refine kTake (v := ?v5) F4 rfl rfl rfl rfl ?y5 (fun a5 F5 => ?h5)
  case y5 =>
    have y0 := SX.c0; have y1 := SX.c1; have y2 := SX.c2; have e5 := F4.ev 5 rfl; have g5 := F4.get 5 _ rfl
    go_simp; try with_reducible rfl
  clear F4 a4
  refine kTake (v := ?v6) F5 rfl rfl rfl rfl ?y6 (fun a6 F6 => ?h6)
  case y6 =>
    have e1 := F5.ev 1 rfl; have g1 := F5.get 1 _ rfl
    go_simp; try with_reducible rfl
  clear F5 a5
  refine kTake (v := ?v7) F6 rfl rfl rfl rfl ?y7 (fun a7 F7 => ?h7)
  case y7 =>
    have y0 := SX.c0; have y1 := SX.c1; have y2 := SX.c2; have e7 := F6.ev 7 rfl; have g7 := F6.get 7 _ rfl
    go_simp; try with_reducible rfl
  clear F6 a6
  refine kTake (v := ?v8) F7 rfl rfl rfl rfl ?y8 (fun a8 F8 => ?h8)
  case y8 =>
    have e1 := F7.ev 1 rfl; have g1 := F7.get 1 _ rfl
    go_simp; try with_reducible rfl
  clear F7 a7
  refine kTake (v := ?v9) F8 rfl rfl rfl rfl ?y9 (fun a9 F9 => ?h9)
  case y9 =>
    have y0 := SX.c0; have y1 := SX.c1; have y2 := SX.c2; have e9 := F8.ev 9 rfl; have g9 := F8.get 9 _ rfl
    go_simp; try with_reducible rfl
  clear F8 a8
  refine kTake (v := btv x y z none 0 0) F9 rfl rfl rfl rfl ?y10 (fun a10 F10 => ?h10)
  case y10 =>
    have e6 := F9.ev 6 rfl; have g6 := F9.get 6 _ rfl; have e8 := F9.ev 8 rfl; have g8 := F9.get 8 _ rfl; have e10 := F9.ev 10 rfl; have g10 := F9.get 10 _ rfl
    go_simp; try with_reducible rfl
  clear F9 a9
  refine kVal (v := ?v11) (w' := w2.alloc (bto 0 0 0 none 0 0)) F10 rfl rfl rfl rfl ?y11 (fun a11 F11 => ?h11)
  case y11 =>
    skip
    go_simp
    all_goals (first | with_reducible rfl | (constructor <;> first | with_reducible rfl | rfl) | skip)
  clear F10 a10
  refine kStore (w' := w2.alloc (bto x y z none 0 0)) F11 rfl rfl rfl ?y12 (fun a12 F12 => ?h12)
  case y12 =>
    have e3 := F11.ev 3 rfl; have g3 := F11.get 3 _ rfl; have e11 := F11.ev 11 rfl; have g11 := F11.get 11 _ rfl
    go_simp; try with_reducible rfl
  clear F11 a11
  have F13 := F12.sub (l' := [(1, .pointer (some ⟨w.heap.size, 0, none⟩)), (2, .pointer (some ⟨RR, 0, none⟩)), (3, .pointer (some ⟨w2.heap.size, 0, none⟩))]) ⟨rfl, rfl, rfl, trivial⟩
  clear F12
  have hb := below_alloc1 w2 (bto x y z none 0 0)
  have hor := OR.lt
  have T : AcAt w (w2.alloc (bto x y z none 0 0)) RR w2.heap.size x y z none 0 0 [] :=
    ⟨BAt.new w2 x y z none 0 0 _ rfl, OR.below hb, World.ownsRow_nil _ _ _ _, OwnAll.nil _ _, below_then HB hb, hRl, HB.size, by omega, (fun k hk => by cases hk), (fun p hp => by cases hp), (fun p hp => by cases hp)⟩
  have hsx0 := SX.c0
  replace h := h.below hb
  replace SX := SX.below hb
  clear OR HB hor
  have hsxl : w.heap.size < w2.heap.size := by have := World.block_lt_of_cell? _ _ hsx0; exact this
  have hb3 := hb
  clear hb
  generalize w2.heap.size = XX at *
  generalize w2.alloc (bto x y z none 0 0) = w3 at *
  have H3 := hid h
  have S3 := hid SX
  have hxw : w.heap.size < XX := by have h1 := T.ne; have h2 := T.leX; have h3 := hRl; have h4 := T.leR; have h5 := hsxl; omega
  clear h SX hb3 hsxl
  refine kFin rfl ?_
  refine frNext ?_
  refine wp_seq ?_
  refine wp_seq ?_
  refine kGo ?_
  refine kMove F13 rfl rfl rfl rfl rfl (fun a14 F14 => ?_)
  clear F13 a12
  have F15 := F14.sub (l' := [(1, .pointer (some ⟨w.heap.size, 0, none⟩)), (2, .pointer (some ⟨RR, 0, none⟩)), (3, .pointer (some ⟨XX, 0, none⟩)), (4, .int .i64 0)]) ⟨rfl, rfl, rfl, rfl, trivial⟩
  clear F14
  refine kFin rfl ?_
  refine frNext ?_
  refine frBlock ?_
  refine wp_loop (fun aL wL => ∃ (i : Nat) (A' : Option Addr) (c' : Nat) (l' : List OpV), i ≤ n ∧ Fr aL 31 [(1, .pointer (some ⟨w.heap.size, 0, none⟩)), (2, .pointer (some ⟨RR, 0, none⟩)), (3, .pointer (some ⟨XX, 0, none⟩)), (4, .int .i64 (i : Int))] ∧ AcAt w wL RR XX x y z A' i c' l' ∧ l'.map OpV.d = (l.map OpV.d).take i ∧ wL.heap[w.heap.size]? = w3.heap[w.heap.size]? ∧ (∀ k, (Value.slice A' i c').ownBlock = some k → k ≠ w.heap.size)) (fun aL _ => n - (intOf (aL.tmps.getD 4 undef)).toNat) ?st ?rd
  case st => exact ⟨0, none, 0, [], by omega, F15, T, by simp, rfl, fun k hk => by cases hk⟩
  case rd =>
    clear T F15 a14
    rintro aL wL ⟨i, A', c', l', hi, FL, T, hmap, hk3, hk4⟩
    have HM := hid hmap
    have HK := hid hk3
    have HK4 := hid hk4
    clear hmap hk3 hk4
    rw [show intOf (aL.tmps.getD 4 undef) = (i : Int) by rw [FL.ev 4 rfl]; rfl]
    refine wp_seq ?_
    refine wp_seq ?_
    refine kGo ?_
    refine kMove FL rfl rfl rfl rfl rfl (fun a16 F16 => ?_)
    clear FL aL
    refine kTake (v := ?v17) F16 rfl rfl rfl rfl ?y17 (fun a17 F17 => ?h17)
    case y17 =>
      have e1 := F16.ev 1 rfl; have g1 := F16.get 1 _ rfl
      go_simp; try with_reducible rfl
    clear F16 a16
    refine kTake (v := ?v18) F17 rfl rfl rfl rfl ?y18 (fun a18 F18 => ?h18)
    case y18 =>
      have sx3 : wL.cell? ⟨w.heap.size, 3, none⟩ = some (.slice A n c) := (by rw [World.cell?_of_block (a := ⟨w.heap.size, 3, none⟩) HK.out]; exact S3.out.c3); have e13 := F17.ev 13 rfl; have g13 := F17.get 13 _ rfl
      go_simp; try with_reducible rfl
    clear F17 a17
    refine kTake (v := ?v19) F18 rfl rfl rfl rfl ?y19 (fun a19 F19 => ?h19)
    case y19 =>
      have e14 := F18.ev 14 rfl; have g14 := F18.get 14 _ rfl
      go_simp; try with_reducible rfl
    clear F18 a18
    by_cases hlt : i < n
    · skip
      refine kTake (v := .bool true) F19 rfl rfl rfl rfl ?y20 (fun a20 F20 => ?h20)
      case y20 =>
        have e12 := F19.ev 12 rfl; have g12 := F19.get 12 _ rfl; have e15 := F19.ev 15 rfl; have g15 := F19.get 15 _ rfl
        first | (go_simp; done) | (go_simp; omega)
      clear F19 a19
      have F21 := F20.sub (l' := [(1, .pointer (some ⟨w.heap.size, 0, none⟩)), (2, .pointer (some ⟨RR, 0, none⟩)), (3, .pointer (some ⟨XX, 0, none⟩)), (4, .int .i64 (i : Int)), (16, .bool true)]) ⟨rfl, rfl, rfl, rfl, rfl, trivial⟩
      clear F20
      refine kFin rfl ?_
      refine frNext ?_
      refine frCond (b := true) F21 rfl ?_
      simp only [if_true]
      refine wp_skip ?_
      refine frNext ?_
      refine wp_seq ?_
      refine frBlock ?_
      have HL := H0.out.below T.below
      obtain ⟨bb, oo', hA, hx⟩ := HL.at_ (by omega)
      obtain ⟨p, hp⟩ : ∃ p, l[i]? = some p := ⟨_, List.getElem?_eq_getElem (by omega)⟩
      have hz := (hx i p hp)
      have hz2 : At12 wL.drew bb (oo' + i * 12) p := hz.below (Below.refl _ wL).drew
      have hpi0 := HL.each p (List.mem_of_getElem? hp)
      have hpi := hpi0.below (Below.refl _ wL).drew
      have hpn := HPN.out p (List.mem_of_getElem? hp)
      have HP := hid hp
      have HA := hid hA
      clear hx hp HL hz hpi0
      refine gGo (n := 12) rfl (by kernel_rfl) ?_
      replace T := T.drew
      have sx3 : wL.drew.cell? ⟨w.heap.size, 3, none⟩ = some (.slice A n c) := by
        have e : wL.drew.heap[w.heap.size]? = w3.heap[w.heap.size]? := HK.out
        rw [World.cell?_of_block (a := ⟨w.heap.size, 3, none⟩) e]; exact S3.out.c3
      have hKd : wL.drew.heap[w.heap.size]? = w3.heap[w.heap.size]? := HK.out
      generalize wL.drew = wd at *
      refine gFree 0 (v := ?v22) F21 rfl rfl rfl rfl (by kernel_rfl) (by kernel_rfl) (by kernel_rfl) (fun _ d _ _ _ h => by cases d <;> exact h) ?y22 (fun a22 F22 => ?h22)
      case y22 =>
        intro wS; have e3 := F21.ev 3 rfl; have g3 := F21.get 3 _ rfl
        go_simp; try with_reducible rfl
      clear F21 a20
      refine gFree 2 (v := ?v23) F22 rfl rfl rfl rfl (by kernel_rfl) (by kernel_rfl) (by kernel_rfl) (fun _ d _ _ _ h => by cases d <;> exact h) ?y23 (fun a23 F23 => ?h23)
      case y23 =>
        intro wS; have e1 := F22.ev 1 rfl; have g1 := F22.get 1 _ rfl
        go_simp; try with_reducible rfl
      clear F22 a22
      refine gFree 4 (v := ?v24) F23 rfl rfl rfl rfl (by kernel_rfl) (by kernel_rfl) (by kernel_rfl) (fun _ d _ _ _ h => by cases d <;> exact h) ?y24 (fun a24 F24 => ?h24)
      case y24 =>
        intro wS; have e4 := F23.ev 4 rfl; have g4 := F23.get 4 _ rfl
        go_simp; try with_reducible rfl
      clear F23 a23
      refine gJoin (fun a' w' => ∃ (A7 : Option Addr) (c7 T0 : Nat), Fr a' 31 [(1, .pointer (some ⟨w.heap.size, 0, none⟩)), (2, .pointer (some ⟨RR, 0, none⟩)), (3, .pointer (some ⟨XX, 0, none⟩)), (4, .int .i64 (i : Int)), (19, .pointer (some ⟨XX, 3, none⟩)), (20, (.slice A' i c')), (27, .slice (some ⟨T0, 0, none⟩) 1 1)] ∧ AcAt w w' RR XX x y z A' i c' l' ∧ (∀ j u, (ov [(⟨p.d, A7, p.n, c7⟩ : OpV)])[j]? = some u → w'.cell? ((⟨T0, 0, none⟩ : Addr).add j) = some u) ∧ OpIs w' p.d A7 p.n c7 ∧ (∀ a, A7 = some a → w.heap.size ≤ a.block ∧ a.block < w'.heap.size ∧ a.block ≠ XX ∧ a.block ≠ RR ∧ (Value.slice A' i c').ownBlock ≠ some a.block) ∧ w'.heap[w.heap.size]? = w3.heap[w.heap.size]?) #[true, true, true, true, true, true, true, true, true, false, false, false] 3 ?j5 (fun J5 => ?m5)
      case m5 =>
        refine gDuo 1 3 F24 rfl rfl (by kernel_rfl) rfl rfl ?a3 ?b3
        case a3 =>
          refine o1Take (v := (.slice A' i c')) F24 rfl rfl ?y25 (fun a25 F25 => ?h25)
          case y25 =>
            have q := T.x.cs; have y3 := q.c3; clear q; have e19 := F24.ev 19 rfl; have g19 := F24.get 19 _ rfl
            go_simp; try with_reducible rfl
          clear F24 a24
          refine gSolo 3 F25 rfl (by kernel_rfl) rfl ?_
          refine o1Take (v := .slice A n c) F25 rfl rfl ?y26 (fun a26 F26 => ?h26)
          case y26 =>
            have e21 := F25.ev 21 rfl; have g21 := F25.get 21 _ rfl
            go_simp; try with_reducible rfl
          clear F25 a25
          refine gSolo 5 F26 rfl (by kernel_rfl) rfl ?_
          refine o1Take (v := .pointer (some ⟨bb, oo' + i * 12, none⟩)) F26 rfl rfl ?y27 (fun a27 F27 => ?h27)
          case y27 =>
            have hA := HA.out; subst hA; have e22 := F26.ev 22 rfl; have g22 := F26.get 22 _ rfl; have e23 := F26.ev 23 rfl; have g23 := F26.get 23 _ rfl
            first | (go_simp; done) | (go_simp; omega) | (go_simp; try with_reducible rfl)
          clear F26 a26
          refine gSolo 6 F27 rfl (by kernel_rfl) rfl ?_
          refine o1Take (v := opv p.d p.A p.n p.c) F27 rfl rfl ?y28 (fun a28 F28 => ?h28)
          case y28 =>
            have y0 := hz2.c0; have y1 := hz2.c1; have y2 := hz2.c2; have y3 := hz2.c3; have y4 := hz2.c4; have y5 := hz2.c5; have y6 := hz2.c6; have y7 := hz2.c7; have y8 := hz2.c8; have y9 := hz2.c9; have y10 := hz2.c10; have y11 := hz2.c11; have e24 := F27.ev 24 rfl; have g24 := F27.get 24 _ rfl
            go_simp; try with_reducible rfl
          clear F27 a27
          refine gSolo 7 F28 rfl (by kernel_rfl) rfl ?_
          have hxl := T.x.lt
          have hrl := T.r.lt
          have hol := T.row.lt
          have hsz := T.below.size
          refine o1Call F28 rfl rfl (Own7_n p _ hpi hpn) ?y29 ?h29
          case y29 =>
            have e25 := F28.ev 25 rfl; have g25 := F28.get 25 _ rfl
            go_simp; try with_reducible rfl
          rintro e w7 ⟨⟨A7, c7, rfl, D7, hA7⟩, hb'⟩
          have hF7 : (∀ a, A7 = some a → w.heap.size ≤ a.block ∧ a.block < w7.heap.size ∧ a.block ≠ XX ∧ a.block ≠ RR ∧ (Value.slice A' i c').ownBlock ≠ some a.block) := fun a ha => by
            obtain ⟨q1, q2⟩ := hA7 a ha
            refine ⟨by omega, q2, by omega, by omega, fun e => ?_⟩
            have := (hol a.block e).2
            omega
          replace hKd := (hb'.block w.heap.size (by omega)).trans hKd
          replace T := T.bl hb'
          clear hA7 hxl hrl hol hsz hb'
          refine ⟨_, rfl, fun a29 F29 => ?_⟩
          clear F28 a28
          refine gSolo 8 F29 rfl (by kernel_rfl) rfl ?_
          refine o1Val (v := ?v30) (w' := w7.alloc (oo p.d A7 p.n c7)) F29 rfl rfl ?y30 (fun a30 F30 => ?h30)
          case y30 =>
            have e26 := F29.ev 26 rfl; have g26 := F29.get 26 _ rfl
            go_simp; try with_reducible rfl
          clear F29 a29
          have hb' := below_alloc1 w7 (oo p.d A7 p.n c7)
          have hcell := ov_new w7 ⟨p.d, A7, p.n, c7⟩ 35
          have hsw := T.below.size
          have hxl := T.x.lt
          replace hKd := (hb'.block w.heap.size (by omega)).trans hKd
          replace T := T.bl hb'
          replace D7 := D7.below hb'
          have hF8 : (∀ a, A7 = some a → w.heap.size ≤ a.block ∧ a.block < (w7.alloc (oo p.d A7 p.n c7)).heap.size ∧ a.block ≠ XX ∧ a.block ≠ RR ∧ (Value.slice A' i c').ownBlock ≠ some a.block) := fun a ha => by
            obtain ⟨q1, q2, q3⟩ := hF7 a ha
            exact ⟨q1, Nat.lt_of_lt_of_le q2 hb'.size, q3⟩
          clear hb' hxl hsw
          have F31 := F30.sub (l' := [(1, .pointer (some ⟨w.heap.size, 0, none⟩)), (2, .pointer (some ⟨RR, 0, none⟩)), (3, .pointer (some ⟨XX, 0, none⟩)), (4, .int .i64 (i : Int)), (19, .pointer (some ⟨XX, 3, none⟩)), (20, (.slice A' i c')), (27, .slice (some ⟨w7.heap.size, 0, none⟩) 1 1)]) ⟨rfl, rfl, rfl, rfl, rfl, rfl, rfl, trivial⟩
          clear F30
          refine gCast (l2 := #[true, true, true, true, true, true, true, true, true, false, false, false]) (by kernel_rfl) ?_
          exact J5 _ _ ⟨A7, c7, _, F31, T, hcell, D7, hF8, hKd⟩
        case b3 =>
          refine o1Take (v := .slice A n c) F24 rfl rfl ?y32 (fun a32 F32 => ?h32)
          case y32 =>
            have e21 := F24.ev 21 rfl; have g21 := F24.get 21 _ rfl
            go_simp; try with_reducible rfl
          clear F24 a24
          refine gDuo 1 5 F32 rfl rfl (by kernel_rfl) rfl rfl ?a5 ?b5
          case a5 =>
            refine o1Take (v := (.slice A' i c')) F32 rfl rfl ?y33 (fun a33 F33 => ?h33)
            case y33 =>
              have q := T.x.cs; have y3 := q.c3; clear q; have e19 := F32.ev 19 rfl; have g19 := F32.get 19 _ rfl
              go_simp; try with_reducible rfl
            clear F32 a32
            refine gSolo 5 F33 rfl (by kernel_rfl) rfl ?_
            refine o1Take (v := .pointer (some ⟨bb, oo' + i * 12, none⟩)) F33 rfl rfl ?y34 (fun a34 F34 => ?h34)
            case y34 =>
              have hA := HA.out; subst hA; have e22 := F33.ev 22 rfl; have g22 := F33.get 22 _ rfl; have e23 := F33.ev 23 rfl; have g23 := F33.get 23 _ rfl
              first | (go_simp; done) | (go_simp; omega) | (go_simp; try with_reducible rfl)
            clear F33 a33
            refine gSolo 6 F34 rfl (by kernel_rfl) rfl ?_
            refine o1Take (v := opv p.d p.A p.n p.c) F34 rfl rfl ?y35 (fun a35 F35 => ?h35)
            case y35 =>
              have y0 := hz2.c0; have y1 := hz2.c1; have y2 := hz2.c2; have y3 := hz2.c3; have y4 := hz2.c4; have y5 := hz2.c5; have y6 := hz2.c6; have y7 := hz2.c7; have y8 := hz2.c8; have y9 := hz2.c9; have y10 := hz2.c10; have y11 := hz2.c11; have e24 := F34.ev 24 rfl; have g24 := F34.get 24 _ rfl
              go_simp; try with_reducible rfl
            clear F34 a34
            refine gSolo 7 F35 rfl (by kernel_rfl) rfl ?_
            have hxl := T.x.lt
            have hrl := T.r.lt
            have hol := T.row.lt
            have hsz := T.below.size
            refine o1Call F35 rfl rfl (Own7_n p _ hpi hpn) ?y36 ?h36
            case y36 =>
              have e25 := F35.ev 25 rfl; have g25 := F35.get 25 _ rfl
              go_simp; try with_reducible rfl
            rintro e w7 ⟨⟨A7, c7, rfl, D7, hA7⟩, hb'⟩
            have hF7 : (∀ a, A7 = some a → w.heap.size ≤ a.block ∧ a.block < w7.heap.size ∧ a.block ≠ XX ∧ a.block ≠ RR ∧ (Value.slice A' i c').ownBlock ≠ some a.block) := fun a ha => by
              obtain ⟨q1, q2⟩ := hA7 a ha
              refine ⟨by omega, q2, by omega, by omega, fun e => ?_⟩
              have := (hol a.block e).2
              omega
            replace hKd := (hb'.block w.heap.size (by omega)).trans hKd
            replace T := T.bl hb'
            clear hA7 hxl hrl hol hsz hb'
            refine ⟨_, rfl, fun a36 F36 => ?_⟩
            clear F35 a35
            refine gSolo 8 F36 rfl (by kernel_rfl) rfl ?_
            refine o1Val (v := ?v37) (w' := w7.alloc (oo p.d A7 p.n c7)) F36 rfl rfl ?y37 (fun a37 F37 => ?h37)
            case y37 =>
              have e26 := F36.ev 26 rfl; have g26 := F36.get 26 _ rfl
              go_simp; try with_reducible rfl
            clear F36 a36
            have hb' := below_alloc1 w7 (oo p.d A7 p.n c7)
            have hcell := ov_new w7 ⟨p.d, A7, p.n, c7⟩ 35
            have hsw := T.below.size
            have hxl := T.x.lt
            replace hKd := (hb'.block w.heap.size (by omega)).trans hKd
            replace T := T.bl hb'
            replace D7 := D7.below hb'
            have hF8 : (∀ a, A7 = some a → w.heap.size ≤ a.block ∧ a.block < (w7.alloc (oo p.d A7 p.n c7)).heap.size ∧ a.block ≠ XX ∧ a.block ≠ RR ∧ (Value.slice A' i c').ownBlock ≠ some a.block) := fun a ha => by
              obtain ⟨q1, q2, q3⟩ := hF7 a ha
              exact ⟨q1, Nat.lt_of_lt_of_le q2 hb'.size, q3⟩
            clear hb' hxl hsw
            have F38 := F37.sub (l' := [(1, .pointer (some ⟨w.heap.size, 0, none⟩)), (2, .pointer (some ⟨RR, 0, none⟩)), (3, .pointer (some ⟨XX, 0, none⟩)), (4, .int .i64 (i : Int)), (19, .pointer (some ⟨XX, 3, none⟩)), (20, (.slice A' i c')), (27, .slice (some ⟨w7.heap.size, 0, none⟩) 1 1)]) ⟨rfl, rfl, rfl, rfl, rfl, rfl, rfl, trivial⟩
            clear F37
            refine gCast (l2 := #[true, true, true, true, true, true, true, true, true, false, false, false]) (by kernel_rfl) ?_
            exact J5 _ _ ⟨A7, c7, _, F38, T, hcell, D7, hF8, hKd⟩
          case b5 =>
            refine o1Take (v := .pointer (some ⟨bb, oo' + i * 12, none⟩)) F32 rfl rfl ?y39 (fun a39 F39 => ?h39)
            case y39 =>
              have hA := HA.out; subst hA; have e22 := F32.ev 22 rfl; have g22 := F32.get 22 _ rfl; have e23 := F32.ev 23 rfl; have g23 := F32.get 23 _ rfl
              first | (go_simp; done) | (go_simp; omega) | (go_simp; try with_reducible rfl)
            clear F32 a32
            refine gDuo 1 6 F39 rfl rfl (by kernel_rfl) rfl rfl ?a6 ?b6
            case a6 =>
              refine o1Take (v := (.slice A' i c')) F39 rfl rfl ?y40 (fun a40 F40 => ?h40)
              case y40 =>
                have q := T.x.cs; have y3 := q.c3; clear q; have e19 := F39.ev 19 rfl; have g19 := F39.get 19 _ rfl
                go_simp; try with_reducible rfl
              clear F39 a39
              refine gSolo 6 F40 rfl (by kernel_rfl) rfl ?_
              refine o1Take (v := opv p.d p.A p.n p.c) F40 rfl rfl ?y41 (fun a41 F41 => ?h41)
              case y41 =>
                have y0 := hz2.c0; have y1 := hz2.c1; have y2 := hz2.c2; have y3 := hz2.c3; have y4 := hz2.c4; have y5 := hz2.c5; have y6 := hz2.c6; have y7 := hz2.c7; have y8 := hz2.c8; have y9 := hz2.c9; have y10 := hz2.c10; have y11 := hz2.c11; have e24 := F40.ev 24 rfl; have g24 := F40.get 24 _ rfl
                go_simp; try with_reducible rfl
              clear F40 a40
              refine gSolo 7 F41 rfl (by kernel_rfl) rfl ?_
              have hxl := T.x.lt
              have hrl := T.r.lt
              have hol := T.row.lt
              have hsz := T.below.size
              refine o1Call F41 rfl rfl (Own7_n p _ hpi hpn) ?y42 ?h42
              case y42 =>
                have e25 := F41.ev 25 rfl; have g25 := F41.get 25 _ rfl
                go_simp; try with_reducible rfl
              rintro e w7 ⟨⟨A7, c7, rfl, D7, hA7⟩, hb'⟩
              have hF7 : (∀ a, A7 = some a → w.heap.size ≤ a.block ∧ a.block < w7.heap.size ∧ a.block ≠ XX ∧ a.block ≠ RR ∧ (Value.slice A' i c').ownBlock ≠ some a.block) := fun a ha => by
                obtain ⟨q1, q2⟩ := hA7 a ha
                refine ⟨by omega, q2, by omega, by omega, fun e => ?_⟩
                have := (hol a.block e).2
                omega
              replace hKd := (hb'.block w.heap.size (by omega)).trans hKd
              replace T := T.bl hb'
              clear hA7 hxl hrl hol hsz hb'
              refine ⟨_, rfl, fun a42 F42 => ?_⟩
              clear F41 a41
              refine gSolo 8 F42 rfl (by kernel_rfl) rfl ?_
              refine o1Val (v := ?v43) (w' := w7.alloc (oo p.d A7 p.n c7)) F42 rfl rfl ?y43 (fun a43 F43 => ?h43)
              case y43 =>
                have e26 := F42.ev 26 rfl; have g26 := F42.get 26 _ rfl
                go_simp; try with_reducible rfl
              clear F42 a42
              have hb' := below_alloc1 w7 (oo p.d A7 p.n c7)
              have hcell := ov_new w7 ⟨p.d, A7, p.n, c7⟩ 35
              have hsw := T.below.size
              have hxl := T.x.lt
              replace hKd := (hb'.block w.heap.size (by omega)).trans hKd
              replace T := T.bl hb'
              replace D7 := D7.below hb'
              have hF8 : (∀ a, A7 = some a → w.heap.size ≤ a.block ∧ a.block < (w7.alloc (oo p.d A7 p.n c7)).heap.size ∧ a.block ≠ XX ∧ a.block ≠ RR ∧ (Value.slice A' i c').ownBlock ≠ some a.block) := fun a ha => by
                obtain ⟨q1, q2, q3⟩ := hF7 a ha
                exact ⟨q1, Nat.lt_of_lt_of_le q2 hb'.size, q3⟩
              clear hb' hxl hsw
              have F44 := F43.sub (l' := [(1, .pointer (some ⟨w.heap.size, 0, none⟩)), (2, .pointer (some ⟨RR, 0, none⟩)), (3, .pointer (some ⟨XX, 0, none⟩)), (4, .int .i64 (i : Int)), (19, .pointer (some ⟨XX, 3, none⟩)), (20, (.slice A' i c')), (27, .slice (some ⟨w7.heap.size, 0, none⟩) 1 1)]) ⟨rfl, rfl, rfl, rfl, rfl, rfl, rfl, trivial⟩
              clear F43
              refine gCast (l2 := #[true, true, true, true, true, true, true, true, true, false, false, false]) (by kernel_rfl) ?_
              exact J5 _ _ ⟨A7, c7, _, F44, T, hcell, D7, hF8, hKd⟩
            case b6 =>
              refine o1Take (v := opv p.d p.A p.n p.c) F39 rfl rfl ?y45 (fun a45 F45 => ?h45)
              case y45 =>
                have y0 := hz2.c0; have y1 := hz2.c1; have y2 := hz2.c2; have y3 := hz2.c3; have y4 := hz2.c4; have y5 := hz2.c5; have y6 := hz2.c6; have y7 := hz2.c7; have y8 := hz2.c8; have y9 := hz2.c9; have y10 := hz2.c10; have y11 := hz2.c11; have e24 := F39.ev 24 rfl; have g24 := F39.get 24 _ rfl
                go_simp; try with_reducible rfl
              clear F39 a39
              refine gDuo 1 7 F45 rfl rfl (by kernel_rfl) rfl rfl ?a7 ?b7
              case a7 =>
                refine o1Take (v := (.slice A' i c')) F45 rfl rfl ?y46 (fun a46 F46 => ?h46)
                case y46 =>
                  have q := T.x.cs; have y3 := q.c3; clear q; have e19 := F45.ev 19 rfl; have g19 := F45.get 19 _ rfl
                  go_simp; try with_reducible rfl
                clear F45 a45
                refine gSolo 7 F46 rfl (by kernel_rfl) rfl ?_
                have hxl := T.x.lt
                have hrl := T.r.lt
                have hol := T.row.lt
                have hsz := T.below.size
                refine o1Call F46 rfl rfl (Own7_n p _ hpi hpn) ?y47 ?h47
                case y47 =>
                  have e25 := F46.ev 25 rfl; have g25 := F46.get 25 _ rfl
                  go_simp; try with_reducible rfl
                rintro e w7 ⟨⟨A7, c7, rfl, D7, hA7⟩, hb'⟩
                have hF7 : (∀ a, A7 = some a → w.heap.size ≤ a.block ∧ a.block < w7.heap.size ∧ a.block ≠ XX ∧ a.block ≠ RR ∧ (Value.slice A' i c').ownBlock ≠ some a.block) := fun a ha => by
                  obtain ⟨q1, q2⟩ := hA7 a ha
                  refine ⟨by omega, q2, by omega, by omega, fun e => ?_⟩
                  have := (hol a.block e).2
                  omega
                replace hKd := (hb'.block w.heap.size (by omega)).trans hKd
                replace T := T.bl hb'
                clear hA7 hxl hrl hol hsz hb'
                refine ⟨_, rfl, fun a47 F47 => ?_⟩
                clear F46 a46
                refine gSolo 8 F47 rfl (by kernel_rfl) rfl ?_
                refine o1Val (v := ?v48) (w' := w7.alloc (oo p.d A7 p.n c7)) F47 rfl rfl ?y48 (fun a48 F48 => ?h48)
                case y48 =>
                  have e26 := F47.ev 26 rfl; have g26 := F47.get 26 _ rfl
                  go_simp; try with_reducible rfl
                clear F47 a47
                have hb' := below_alloc1 w7 (oo p.d A7 p.n c7)
                have hcell := ov_new w7 ⟨p.d, A7, p.n, c7⟩ 35
                have hsw := T.below.size
                have hxl := T.x.lt
                replace hKd := (hb'.block w.heap.size (by omega)).trans hKd
                replace T := T.bl hb'
                replace D7 := D7.below hb'
                have hF8 : (∀ a, A7 = some a → w.heap.size ≤ a.block ∧ a.block < (w7.alloc (oo p.d A7 p.n c7)).heap.size ∧ a.block ≠ XX ∧ a.block ≠ RR ∧ (Value.slice A' i c').ownBlock ≠ some a.block) := fun a ha => by
                  obtain ⟨q1, q2, q3⟩ := hF7 a ha
                  exact ⟨q1, Nat.lt_of_lt_of_le q2 hb'.size, q3⟩
                clear hb' hxl hsw
                have F49 := F48.sub (l' := [(1, .pointer (some ⟨w.heap.size, 0, none⟩)), (2, .pointer (some ⟨RR, 0, none⟩)), (3, .pointer (some ⟨XX, 0, none⟩)), (4, .int .i64 (i : Int)), (19, .pointer (some ⟨XX, 3, none⟩)), (20, (.slice A' i c')), (27, .slice (some ⟨w7.heap.size, 0, none⟩) 1 1)]) ⟨rfl, rfl, rfl, rfl, rfl, rfl, rfl, trivial⟩
                clear F48
                refine gCast (l2 := #[true, true, true, true, true, true, true, true, true, false, false, false]) (by kernel_rfl) ?_
                exact J5 _ _ ⟨A7, c7, _, F49, T, hcell, D7, hF8, hKd⟩
              case b7 =>
                have hxl := T.x.lt
                have hrl := T.r.lt
                have hol := T.row.lt
                have hsz := T.below.size
                refine o1Call F45 rfl rfl (Own7_n p _ hpi hpn) ?y50 ?h50
                case y50 =>
                  have e25 := F45.ev 25 rfl; have g25 := F45.get 25 _ rfl
                  go_simp; try with_reducible rfl
                rintro e w7 ⟨⟨A7, c7, rfl, D7, hA7⟩, hb'⟩
                have hF7 : (∀ a, A7 = some a → w.heap.size ≤ a.block ∧ a.block < w7.heap.size ∧ a.block ≠ XX ∧ a.block ≠ RR ∧ (Value.slice A' i c').ownBlock ≠ some a.block) := fun a ha => by
                  obtain ⟨q1, q2⟩ := hA7 a ha
                  refine ⟨by omega, q2, by omega, by omega, fun e => ?_⟩
                  have := (hol a.block e).2
                  omega
                replace hKd := (hb'.block w.heap.size (by omega)).trans hKd
                replace T := T.bl hb'
                clear hA7 hxl hrl hol hsz hb'
                refine ⟨_, rfl, fun a50 F50 => ?_⟩
                clear F45 a45
                refine gDuo 1 8 F50 rfl rfl (by kernel_rfl) rfl rfl ?a8 ?b8
                case a8 =>
                  refine o1Take (v := (.slice A' i c')) F50 rfl rfl ?y51 (fun a51 F51 => ?h51)
                  case y51 =>
                    have q := T.x.cs; have y3 := q.c3; clear q; have e19 := F50.ev 19 rfl; have g19 := F50.get 19 _ rfl
                    go_simp; try with_reducible rfl
                  clear F50 a50
                  refine gSolo 8 F51 rfl (by kernel_rfl) rfl ?_
                  refine o1Val (v := ?v52) (w' := w7.alloc (oo p.d A7 p.n c7)) F51 rfl rfl ?y52 (fun a52 F52 => ?h52)
                  case y52 =>
                    have e26 := F51.ev 26 rfl; have g26 := F51.get 26 _ rfl
                    go_simp; try with_reducible rfl
                  clear F51 a51
                  have hb' := below_alloc1 w7 (oo p.d A7 p.n c7)
                  have hcell := ov_new w7 ⟨p.d, A7, p.n, c7⟩ 35
                  have hsw := T.below.size
                  have hxl := T.x.lt
                  replace hKd := (hb'.block w.heap.size (by omega)).trans hKd
                  replace T := T.bl hb'
                  replace D7 := D7.below hb'
                  have hF8 : (∀ a, A7 = some a → w.heap.size ≤ a.block ∧ a.block < (w7.alloc (oo p.d A7 p.n c7)).heap.size ∧ a.block ≠ XX ∧ a.block ≠ RR ∧ (Value.slice A' i c').ownBlock ≠ some a.block) := fun a ha => by
                    obtain ⟨q1, q2, q3⟩ := hF7 a ha
                    exact ⟨q1, Nat.lt_of_lt_of_le q2 hb'.size, q3⟩
                  clear hb' hxl hsw
                  have F53 := F52.sub (l' := [(1, .pointer (some ⟨w.heap.size, 0, none⟩)), (2, .pointer (some ⟨RR, 0, none⟩)), (3, .pointer (some ⟨XX, 0, none⟩)), (4, .int .i64 (i : Int)), (19, .pointer (some ⟨XX, 3, none⟩)), (20, (.slice A' i c')), (27, .slice (some ⟨w7.heap.size, 0, none⟩) 1 1)]) ⟨rfl, rfl, rfl, rfl, rfl, rfl, rfl, trivial⟩
                  clear F52
                  refine gCast (l2 := #[true, true, true, true, true, true, true, true, true, false, false, false]) (by kernel_rfl) ?_
                  exact J5 _ _ ⟨A7, c7, _, F53, T, hcell, D7, hF8, hKd⟩
                case b8 =>
                  refine o1Val (v := ?v54) (w' := w7.alloc (oo p.d A7 p.n c7)) F50 rfl rfl ?y54 (fun a54 F54 => ?h54)
                  case y54 =>
                    have e26 := F50.ev 26 rfl; have g26 := F50.get 26 _ rfl
                    go_simp; try with_reducible rfl
                  clear F50 a50
                  have hb' := below_alloc1 w7 (oo p.d A7 p.n c7)
                  have hcell := ov_new w7 ⟨p.d, A7, p.n, c7⟩ 35
                  have hsw := T.below.size
                  have hxl := T.x.lt
                  replace hKd := (hb'.block w.heap.size (by omega)).trans hKd
                  replace T := T.bl hb'
                  replace D7 := D7.below hb'
                  have hF8 : (∀ a, A7 = some a → w.heap.size ≤ a.block ∧ a.block < (w7.alloc (oo p.d A7 p.n c7)).heap.size ∧ a.block ≠ XX ∧ a.block ≠ RR ∧ (Value.slice A' i c').ownBlock ≠ some a.block) := fun a ha => by
                    obtain ⟨q1, q2, q3⟩ := hF7 a ha
                    exact ⟨q1, Nat.lt_of_lt_of_le q2 hb'.size, q3⟩
                  clear hb' hxl hsw
                  have T8 := T
                  clear hF7
                  refine gSolo 1 F54 rfl (by kernel_rfl) rfl ?_
                  refine o1Take (v := (.slice A' i c')) F54 rfl rfl ?y55 (fun a55 F55 => ?h55)
                  case y55 =>
                    have q := T.x.cs; have y3 := q.c3; clear q; have e19 := F54.ev 19 rfl; have g19 := F54.get 19 _ rfl
                    go_simp; try with_reducible rfl
                  clear F54 a54
                  have F56 := F55.sub (l' := [(1, .pointer (some ⟨w.heap.size, 0, none⟩)), (2, .pointer (some ⟨RR, 0, none⟩)), (3, .pointer (some ⟨XX, 0, none⟩)), (4, .int .i64 (i : Int)), (19, .pointer (some ⟨XX, 3, none⟩)), (20, (.slice A' i c')), (27, .slice (some ⟨w7.heap.size, 0, none⟩) 1 1)]) ⟨rfl, rfl, rfl, rfl, rfl, rfl, rfl, trivial⟩
                  clear F55
                  refine gCast (l2 := #[true, true, true, true, true, true, true, true, true, false, false, false]) (by kernel_rfl) ?_
                  exact J5 _ _ ⟨A7, c7, _, F56, T, hcell, D7, hF8, hKd⟩
      case j5 =>
        clear T hpi hz2 hKd sx3 F24 a24
        rintro a5 w5 ⟨A7, c7, T0, F5, T, hcell, D7, hF8, hKd⟩
        refine gSolo 9 F5 rfl (by kernel_rfl) rfl ?_
        refine o1App (p := noB) w.heap.size F5 rfl rfl rfl Tryd.underlying62 info_op rfl (by omega) (by omega) (n := i) (m := 1) rfl rfl T.row hcell rfl (ov_one _) T.below.size (by omega) T.nob (by intro u hu n e; subst e; simp [Value.cells] at hu) (noB_ov _) (noB_ov _) ?_
        intro v9 w9 hrow hnob hg hat a57 F57
        clear F5 a5
        obtain ⟨A9, c9, rfl, -, -, -, -⟩ := owns_form hrow
        have hown9 : ∀ k, (Value.slice A9 (i + 1) c9).ownBlock = some k → k ≠ w.heap.size := fun k hk => by
          rcases hat with e | e
          · exact HK4.out k (by rw [← e]; exact hk)
          · rw [e] at hk
            have := Option.some.inj hk
            have h3 := T.r.lt
            have h4 := T.leR
            omega
        have hK9 : w9.heap[w.heap.size]? = w3.heap[w.heap.size]? := (hg.block w.heap.size (by have h3 := T.r.lt; have h4 := T.leR; omega) (fun e => HK4.out w.heap.size e.symm rfl)).trans hKd
        obtain ⟨hX, T6⟩ := T.more ⟨p.d, A7, p.n, c7⟩ D7 hF8 hg hrow hnob hat
        clear T hg hrow hnob hat hcell hF8 D7 hKd
        have T := T6
        clear T6
        refine gSolo 10 F57 rfl (by kernel_rfl) rfl ?_
        refine o1Take (v := ?v58) F57 rfl rfl ?y58 (fun a58 F58 => ?h58)
        case y58 =>
          have e3 := F57.ev 3 rfl; have g3 := F57.get 3 _ rfl
          go_simp; try with_reducible rfl
        clear F57 a57
        refine gSolo 11 F58 rfl (by kernel_rfl) rfl ?_
        refine o1Store (w' := w9.setCell ⟨XX, 3, none⟩ (.slice A9 (i + 1) c9)) F58 rfl ?y59 (fun a59 F59 => ?_)
        case y59 =>
          have q := hX.cs; have y3 := q.c3; clear q; have f3 := hX.fz 3; have e28 := F58.ev 28 rfl; have g28 := F58.get 28 _ rfl; have e29 := F58.ev 29 rfl; have g29 := F58.get 29 _ rfl
          go_simp; try with_reducible rfl
        clear F58 a58 hX
        refine gFin (by kernel_rfl) ?_
        refine frBlkN ?_
        refine frNext ?_
        have F60 := F59.sub (l' := [(1, .pointer (some ⟨w.heap.size, 0, none⟩)), (2, .pointer (some ⟨RR, 0, none⟩)), (3, .pointer (some ⟨XX, 0, none⟩)), (4, .int .i64 (i : Int))]) ⟨rfl, rfl, rfl, rfl, trivial⟩
        clear F59
        refine kGo ?_
        refine kMove F60 rfl rfl rfl rfl rfl (fun a61 F61 => ?_)
        clear F60 a59
        refine kTake (v := .int .i64 ((i + 1 : Nat) : Int)) F61 rfl rfl rfl rfl ?y62 (fun a62 F62 => ?h62)
        case y62 =>
          have e17 := F61.ev 17 rfl; have g17 := F61.get 17 _ rfl
          first | (go_simp; done) | (go_simp; simp only [IntKind.wrap_i64]; omega)
        clear F61 a61
        refine kMove F62 rfl rfl rfl rfl rfl (fun a63 F63 => ?_)
        clear F62 a62
        have F64 := F63.sub (l' := [(1, .pointer (some ⟨w.heap.size, 0, none⟩)), (2, .pointer (some ⟨RR, 0, none⟩)), (3, .pointer (some ⟨XX, 0, none⟩)), (4, .int .i64 ((i + 1 : Nat) : Int))]) ⟨rfl, rfl, rfl, rfl, trivial⟩
        clear F63
        refine kFin rfl ?_
        have hmap2 : (l' ++ [(⟨p.d, A7, p.n, c7⟩ : OpV)]).map OpV.d = (l.map OpV.d).take (i + 1) := by
          rw [List.map_append, HM.out, List.take_succ_eq_append_getElem (by rw [List.length_map]; omega), List.getElem_map]
          have := HP.out
          obtain ⟨hi', e'⟩ := List.getElem?_eq_some_iff.1 this
          rw [e']
          rfl
        have hK10 : (w9.setCell ⟨XX, 3, none⟩ (.slice A9 (i + 1) c9)).heap[w.heap.size]? = w3.heap[w.heap.size]? := (Below.heap_setCell w9 ⟨XX, 3, none⟩ _ w.heap.size (by show w.heap.size ≠ XX; have := T.leX; omega)).trans hK9
        refine frThenN ⟨⟨i + 1, A9, c9, _, by omega, F64, T, hmap2, hK10, hown9⟩, ?_⟩
        rw [show intOf (a63.tmps.getD 4 undef) = ((i + 1 : Nat) : Int) by rw [F64.ev 4 rfl]; rfl]
        omega
    · skip
      refine kTake (v := .bool false) F19 rfl rfl rfl rfl ?y65 (fun a65 F65 => ?h65)
      case y65 =>
        have e12 := F19.ev 12 rfl; have g12 := F19.get 12 _ rfl; have e15 := F19.ev 15 rfl; have g15 := F19.get 15 _ rfl
        first | (go_simp; done) | (go_simp; omega)
      clear F19 a19
      have F66 := F65.sub (l' := [(1, .pointer (some ⟨w.heap.size, 0, none⟩)), (2, .pointer (some ⟨RR, 0, none⟩)), (3, .pointer (some ⟨XX, 0, none⟩)), (16, .bool false)]) ⟨rfl, rfl, rfl, rfl, trivial⟩
      clear F65
      refine kFin rfl ?_
      refine frNext ?_
      refine frCond (b := false) F66 rfl ?_
      simp only [Bool.false_eq_true, if_false]
      refine wp_exit ?_
      refine frThenE ?_
      refine frThenE ?_
      refine frBlkE ?_
      refine frNext ?_
      refine wp_seq ?_
      obtain rfl : i = n := by omega
      have F67 := F66.sub (l' := [(1, .pointer (some ⟨w.heap.size, 0, none⟩)), (2, .pointer (some ⟨RR, 0, none⟩)), (3, .pointer (some ⟨XX, 0, none⟩))]) ⟨rfl, rfl, rfl, trivial⟩
      clear F66
      refine kGo ?_
      refine kTake (v := btv x y z A' i c') F67 rfl rfl rfl rfl ?y68 (fun a68 F68 => ?h68)
      case y68 =>
        have q := T.x.cs; have y0 := q.c0; have y1 := q.c1; have y2 := q.c2; have y3 := q.c3; clear q; have e3 := F67.ev 3 rfl; have g3 := F67.get 3 _ rfl
        go_simp; try with_reducible rfl
      clear F67 a65
      refine kStore (w' := outB wL RR x y z A' i c') F68 rfl rfl rfl ?y69 (fun a69 F69 => ?h69)
      case y69 =>
        unfold outB; have q := T.r.cs; have y0 := q.c0; have y1 := q.c1; have y2 := q.c2; have y3 := q.c3; clear q; have f0 := T.r.fz 0; have f1 := T.r.fz 1; have f2 := T.r.fz 2; have f3 := T.r.fz 3; have e2 := F68.ev 2 rfl; have g2 := F68.get 2 _ rfl; have e30 := F68.ev 30 rfl; have g30 := F68.get 30 _ rfl
        go_simp; try with_reducible rfl
      clear F68 a68
      refine kFin rfl ?_
      obtain ⟨TO, TB, TS⟩ := T.out
      clear T
      have hmm : b.ops = l'.map OpV.d := by rw [HEQ.out, HM.out, List.take_of_length_le (by rw [List.length_map]; omega)]
      generalize outB wL RR x y z A' i c' = wO at *
      refine frNext ?_
      refine wp_ret ?_
      refine frRetC rfl F69 rfl (v := btv x y z A' i c') ?yl ?_
      case yl =>
        have q := TO.cs; have y0 := q.c0; have y1 := q.c1; have y2 := q.c2; have y3 := q.c3; clear q
        go_simp; try with_reducible rfl
      exact ⟨A', c', l', rfl, ⟨TS, hmm⟩, TB⟩
end Go.Proofs.YtnakanophilfhaaDoor
/- Kn8: Layer 8: what the statements ask besides: two ops' stamps. -/
namespace Go.Proofs.YtnakanophilfhaaDoor
open Go.RowKit Go.Dio
set_option linter.unusedVariables false
set_option linter.unusedSimpArgs false

@[reducible] def kb1 : OpD := ⟨1, 0, 0, 0, 0, ⟨#[97]⟩, [], 0, 0, 0, ⟨#[]⟩, false⟩
@[reducible] def kb2 : OpD := ⟨4, 5, 1, 0, 0, ⟨#[]⟩, [], 0, 0, 0, ⟨#[]⟩, false⟩
def kb : BtD := ⟨1, 3, 5, [kb1, kb2]⟩
theorem kb_right : bright kb = true := by decide
def kbl : List OpV := [⟨kb1, none, 0, 0⟩, ⟨kb2, none, 0, 0⟩]
theorem kb_ops (w : World) : IsOps (w.alloc (.cells (ox ⟨kb1, none, 0, 0⟩ ++ ox ⟨kb2, none, 0, 0⟩) 35)) (some ⟨w.heap.size, 0, none⟩) 2 2 kbl :=
  ⟨rfl, Nat.le_refl _, by omega, CellsAt.new w _ _, fun p hp => by
    simp only [kbl, List.mem_cons, List.not_mem_nil, or_false] at hp
    rcases hp with rfl | rfl
    · exact ⟨⟨rfl, Nat.le_refl _, by decide, .inl rfl⟩, by decide, by decide⟩
    · exact ⟨⟨rfl, Nat.le_refl _, by decide, .inl rfl⟩, by decide, by decide⟩⟩
theorem kb_unf : unfB (frameB (btB kb) ++ [7]) = (kb, ((frameB (btB kb)).length : Int), 0) := unfB_frame kb [7] kb_right
theorem kb_len : (frameB (btB kb)).length ≤ 50000 := by
  have := btB_le kb_right
  have l := numB_le (btB kb).length (by omega)
  rw [frameB_len]
  omega
set_option maxRecDepth 100000 in
set_option maxHeartbeats 4000000 in
theorem knows8_any (w : World) (hg : RootsAt w) : Calls Tryd.prog 36 #[] w fun e w' => e = .returned (.bool true) ∧ Below w.heap.size w w' := by
  have HB := Below.refl w.heap.size w
  have RG := hg
  clear hg
  have kr : kb.rep = 1 := rfl
  have ks : kb.seq = 3 := rfl
  have kt : kb.time = 5 := rfl
  refine frCall (args := []) (N := 61) Tryd.func36 rfl rfl rfl (fun a0 F0 => ?_)
  refine wp_seq ?_
  refine kGo ?_
  refine kMove F0 rfl rfl rfl rfl rfl (fun a1 F1 => ?_)
  clear F0 a0
  refine kFin rfl ?_
  refine frNext ?_
  refine wp_seq ?_
  refine kGo ?_
  refine kTake (v := opv kb1 none 0 0) F1 rfl rfl rfl rfl ?y2 (fun a2 F2 => ?h2)
  case y2 =>
    skip
    go_simp; try with_reducible rfl
  clear F1 a1
  refine kTake (v := stv 5 1) F2 rfl rfl rfl rfl ?y3 (fun a3 F3 => ?h3)
  case y3 =>
    skip
    go_simp; try with_reducible rfl
  clear F2 a2
  refine kTake (v := opv kb2 none 0 0) F3 rfl rfl rfl rfl ?y4 (fun a4 F4 => ?h4)
  case y4 =>
    have e8 := F3.ev 8 rfl; have g8 := F3.get 8 _ rfl
    go_simp; try with_reducible rfl
  clear F3 a3
  refine kVal (v := ?v5) (w' := w.alloc (.cells (ox ⟨kb1, none, 0, 0⟩ ++ ox ⟨kb2, none, 0, 0⟩) 35)) F4 rfl rfl rfl rfl ?y5 (fun a5 F5 => ?h5)
  case y5 =>
    have e7 := F4.ev 7 rfl; have g7 := F4.get 7 _ rfl; have e9 := F4.ev 9 rfl; have g9 := F4.get 9 _ rfl
    go_simp
    all_goals (first | with_reducible rfl | (constructor <;> first | with_reducible rfl | rfl) | skip)
  clear F4 a4
  have hb := below_alloc1 w (.cells (ox ⟨kb1, none, 0, 0⟩ ++ ox ⟨kb2, none, 0, 0⟩) 35)
  have DX : BtIs (w.alloc (.cells (ox ⟨kb1, none, 0, 0⟩ ++ ox ⟨kb2, none, 0, 0⟩) 35)) kb (some ⟨w.heap.size, 0, none⟩) 2 2 kbl := ⟨kb_ops w, rfl⟩
  replace RG := RG.below hb
  replace HB := below_then HB hb
  clear hb
  generalize w.alloc (.cells (ox ⟨kb1, none, 0, 0⟩ ++ ox ⟨kb2, none, 0, 0⟩) 35) = w1 at *
  refine kTake (v := btv 1 3 5 (some ⟨w.heap.size, 0, none⟩) 2 2) F5 rfl rfl rfl rfl ?y6 (fun a6 F6 => ?h6)
  case y6 =>
    have e10 := F5.ev 10 rfl; have g10 := F5.get 10 _ rfl
    go_simp; try with_reducible rfl
  clear F5 a5
  refine kVal (v := ?v7) (w' := w1.alloc (bto 0 0 0 none 0 0)) F6 rfl rfl rfl rfl ?y7 (fun a7 F7 => ?h7)
  case y7 =>
    skip
    go_simp
    all_goals (first | with_reducible rfl | (constructor <;> first | with_reducible rfl | rfl) | skip)
  clear F6 a6
  refine kStore (w' := w1.alloc (bto 1 3 5 (some ⟨w.heap.size, 0, none⟩) 2 2)) F7 rfl rfl rfl ?y8 (fun a8 F8 => ?h8)
  case y8 =>
    have e1 := F7.ev 1 rfl; have g1 := F7.get 1 _ rfl; have e11 := F7.ev 11 rfl; have g11 := F7.get 11 _ rfl
    go_simp; try with_reducible rfl
  clear F7 a7
  have F9 := F8.sub (l' := [(1, .pointer (some ⟨w1.heap.size, 0, none⟩))]) ⟨rfl, trivial⟩
  clear F8
  have hb := below_alloc1 w1 (bto 1 3 5 (some ⟨w.heap.size, 0, none⟩) 2 2)
  have OX := BAt.new w1 1 3 5 (some ⟨w.heap.size, 0, none⟩) 2 2 _ rfl
  replace RG := RG.below hb
  replace DX := DX.below hb
  replace HB := below_then HB hb
  clear hb
  generalize hx1 : w1.heap.size = X1 at *
  clear hx1
  generalize w1.alloc (bto 1 3 5 (some ⟨w.heap.size, 0, none⟩) 2 2) = w2 at *
  refine kFin rfl ?_
  refine frNext ?_
  refine wp_seq ?_
  refine kGo ?_
  refine kTake (v := btv 1 3 5 (some ⟨w.heap.size, 0, none⟩) 2 2) F9 rfl rfl rfl rfl ?y10 (fun a10 F10 => ?h10)
  case y10 =>
    have q := OX.cs; have y0 := q.c0; have y1 := q.c1; have y2 := q.c2; have y3 := q.c3; clear q; have e1 := F9.ev 1 rfl; have g1 := F9.get 1 _ rfl
    go_simp; try with_reducible rfl
  clear F9 a8
  refine kCall F10 rfl rfl rfl rfl (BFrame_any kb (some ⟨w.heap.size, 0, none⟩) 2 2 kbl _ DX RG) ?y11 ?h11
  case y11 =>
    have e13 := F10.ev 13 rfl; have g13 := F10.get 13 _ rfl
    go_simp; try with_reducible rfl
  rintro e w3 ⟨hok, -⟩
  obtain ⟨v1, rfl, ho, hb⟩ := hok kb_right
  clear hok
  obtain ⟨Af, nf, cf, rfl, hF, -⟩ := ho.form
  clear ho
  have hFl := hF.len
  have hFk := kb_len
  replace RG := RG.below hb
  replace DX := DX.below hb
  replace OX := OX.below hb
  replace HB := below_then HB hb
  clear hb
  refine ⟨_, rfl, fun a11 F11 => ?_⟩
  clear F10 a10
  refine kMove F11 rfl rfl rfl rfl rfl (fun a12 F12 => ?_)
  clear F11 a11
  refine kMove F12 rfl rfl rfl rfl rfl (fun a13 F13 => ?_)
  clear F12 a12
  refine kMove F13 rfl rfl rfl rfl rfl (fun a14 F14 => ?_)
  clear F13 a13
  refine kMove F14 rfl rfl rfl rfl rfl (fun a15 F15 => ?_)
  clear F14 a14
  refine kMove F15 rfl rfl rfl rfl rfl (fun a16 F16 => ?_)
  clear F15 a15
  have F17 := F16.sub (l' := [(1, .pointer (some ⟨X1, 0, none⟩)), (2, .slice Af nf cf), (3, .int .i64 0)]) ⟨rfl, rfl, rfl, trivial⟩
  clear F16
  refine kFin rfl ?_
  refine frNext ?_
  refine wp_seq ?_
  have KU := hid kb_unf
  generalize frameB (btB kb) = FB at *
  refine kGo ?_
  refine kVal (v := ?v18) (w' := w3.alloc (.cells #[] 5)) F17 rfl rfl rfl rfl ?y18 (fun a18 F18 => ?h18)
  case y18 =>
    skip
    go_simp
    all_goals (first | with_reducible rfl | (constructor <;> first | with_reducible rfl | rfl) | skip)
  clear F17 a16
  have HS := below_alloc1 w3 (.cells #[] 5)
  have HO : OwnB 5 (w3.alloc (.cells #[] 5)) w3.heap.size (.slice (some ⟨w3.heap.size, 0, none⟩) 0 0) [] := OwnB.lit 5 w3 w3.heap.size [] (Nat.le_refl _) (by simp)
  generalize w3.alloc (.cells #[] 5) = w4 at *
  refine kMove F18 rfl rfl rfl rfl rfl (fun a19 F19 => ?_)
  clear F18 a18
  refine kAppB (w0 := w3) w3.heap.size F19 rfl rfl rfl rfl (t := 31) (e := 5) rfl Tryd.underlying31 info_u8 rfl rfl HO (hF.below HS) HS HS.size ?c20 ?h20
  case c20 => simp only [List.length_append, List.length_nil]; omega
  clear HO HS
  intro va20 wa20 HO HS hg a20 F20
  clear F19 a19 hg
  rw [List.nil_append] at HO
  refine kVal (v := ?v21) (w' := wa20.alloc (.cells #[.int .u8 7] 5)) F20 rfl rfl rfl rfl ?y21 (fun a21 F21 => ?h21)
  case y21 =>
    skip
    go_simp
    all_goals (first | with_reducible rfl | (constructor <;> first | with_reducible rfl | rfl) | skip)
  clear F20 a20
  have hb5 := below_alloc1 wa20 (.cells #[.int .u8 7] 5)
  have h7 := IsB.new1 wa20 5 7 7 rfl
  have HO2 : OwnB 5 _ w3.heap.size va20 FB := owns_below HO hb5
  replace HS := below_then HS hb5
  clear HO hb5
  have HO := HO2
  clear HO2
  generalize wa20.alloc (.cells #[.int .u8 7] 5) = w5 at *
  refine kAppB (w0 := w3) w3.heap.size F21 rfl rfl rfl rfl (t := 31) (e := 5) rfl Tryd.underlying31 info_u8 rfl rfl HO h7 HS HS.size ?c22 ?h22
  case c22 => omega
  clear HO HS
  intro va22 wa22 HO HS hg a22 F22
  clear F21 a21 hg
  obtain ⟨Ag, ng, cg, rfl, hG, -⟩ := HO.form
  clear HO h7
  have hc := BUnframe_any Ag ng cg (FB ++ [7]) _ hG (RG.below HS)
  rw [KU.out] at hc
  dsimp only at hc
  refine kCall F22 rfl rfl rfl rfl (hc) ?y23 ?h23
  case y23 =>
    have e22 := F22.ev 22 rfl; have g22 := F22.get 22 _ rfl
    go_simp; try with_reducible rfl
  rintro e w6 ⟨Ay, ny, cy, ly, rfl, DY, hb6⟩
  have hb := below_then HS hb6
  clear HS hb6 hG hc
  replace RG := RG.below hb
  replace DX := DX.below hb
  replace OX := OX.below hb
  replace hF := hF.below hb
  replace HB := below_then HB hb
  clear hb
  refine ⟨_, rfl, fun a23 F23 => ?_⟩
  clear F22 a22
  refine kMove F23 rfl rfl rfl rfl rfl (fun a24 F24 => ?_)
  clear F23 a23
  refine kMove F24 rfl rfl rfl rfl rfl (fun a25 F25 => ?_)
  clear F24 a24
  refine kMove F25 rfl rfl rfl rfl rfl (fun a26 F26 => ?_)
  clear F25 a25
  refine kMove F26 rfl rfl rfl rfl rfl (fun a27 F27 => ?_)
  clear F26 a26
  refine kVal (v := ?v28) (w' := w6.alloc (bto 0 0 0 none 0 0)) F27 rfl rfl rfl rfl ?y28 (fun a28 F28 => ?h28)
  case y28 =>
    skip
    go_simp
    all_goals (first | with_reducible rfl | (constructor <;> first | with_reducible rfl | rfl) | skip)
  clear F27 a27
  refine kStore (w' := w6.alloc (bto 1 3 5 Ay ny cy)) F28 rfl rfl rfl ?y29 (fun a29 F29 => ?h29)
  case y29 =>
    have e4 := F28.ev 4 rfl; have g4 := F28.get 4 _ rfl; have e24 := F28.ev 24 rfl; have g24 := F28.get 24 _ rfl
    go_simp; try with_reducible rfl
  clear F28 a28
  refine kMove F29 rfl rfl rfl rfl rfl (fun a30 F30 => ?_)
  clear F29 a29
  refine kMove F30 rfl rfl rfl rfl rfl (fun a31 F31 => ?_)
  clear F30 a30
  have F32 := F31.sub (l' := [(1, .pointer (some ⟨X1, 0, none⟩)), (2, .slice Af nf cf), (3, .int .i64 0), (4, .pointer (some ⟨w6.heap.size, 0, none⟩)), (5, .int .i64 (FB.length : Int)), (6, .int .i64 0)]) ⟨rfl, rfl, rfl, rfl, rfl, rfl, trivial⟩
  clear F31
  have hb := below_alloc1 w6 (bto 1 3 5 Ay ny cy)
  have OY := BAt.new w6 1 3 5 Ay ny cy _ rfl
  replace RG := RG.below hb
  replace DX := DX.below hb
  replace OX := OX.below hb
  replace hF := hF.below hb
  replace DY := DY.below hb
  replace HB := below_then HB hb
  clear hb
  generalize hx6 : w6.heap.size = Y1 at *
  clear hx6
  generalize w6.alloc (bto 1 3 5 Ay ny cy) = w7 at *
  refine kFin rfl ?_
  refine frNext ?_
  refine wp_seq ?_
  have HB7 := HB.drew
  have OX7 := OX
  have OY7 := OY
  replace HB := HB7
  clear HB7
  have hny : ny = 2 := by have := DY.len; simpa [kb] using this.symm
  have hS : Below w7.heap.size w7 w7.drew := (Below.refl _ w7).drew
  refine sGo (n := 35) (fun w' => Below w7.heap.size w7 w') rfl (by kernel_rfl) (hS) ?_
  replace RG := RG.below hS
  replace DX := DX.below hS
  replace OX := OX.below hS
  replace hF := hF.below hS
  replace DY := DY.below hS
  replace OY := OY.below hS
  refine sMove 0 F32 rfl rfl rfl rfl (by kernel_rfl) (by kernel_rfl) (by kernel_rfl) (fun _ d _ _ _ h => by cases d <;> exact h) hS rfl (fun a33 F33 => ?_)
  clear F32 a31
  refine sMove 2 F33 rfl rfl rfl rfl (by kernel_rfl) (by kernel_rfl) (by kernel_rfl) (fun _ d _ _ _ h => by cases d <;> exact h) hS rfl (fun a34 F34 => ?_)
  clear F33 a33
  refine sSolo 1 F34 rfl (by kernel_rfl) rfl (o1Call F34 rfl rfl (num8_any 0 _) ?y35 ?h35)
  case y35 =>
    have e27 := F34.ev 27 rfl; have g27 := F34.get 27 _ rfl
    go_simp; try with_reducible rfl
  rintro e wN ⟨rfl, rfl⟩
  refine ⟨_, rfl, fun a35 F35 => ⟨hS, ?_⟩⟩
  clear F34 a34
  refine sSolo 3 F35 rfl (by kernel_rfl) rfl (o1Call F35 rfl rfl (num8_any 0 _) ?y36 ?h36)
  case y36 =>
    have e29 := F35.ev 29 rfl; have g29 := F35.get 29 _ rfl
    go_simp; try with_reducible rfl
  rintro e wN ⟨rfl, rfl⟩
  refine ⟨_, rfl, fun a36 F36 => ⟨hS, ?_⟩⟩
  clear F35 a35
  refine sFree 4 (v := .int .i64 0) F36 rfl rfl rfl rfl (by kernel_rfl) (by kernel_rfl) (by kernel_rfl) (fun _ d _ _ _ h => by cases d <;> exact h) hS ?y37 (fun a37 F37 => ?h37)
  case y37 =>
    intro wS hSw; have e28 := F36.ev 28 rfl; have g28 := F36.get 28 _ rfl; have e30 := F36.ev 30 rfl; have g30 := F36.get 30 _ rfl
    first | (go_simp; done) | (go_simp; simp only [IntKind.wrap_i64]; omega)
  clear F36 a36
  refine sFree 5 (v := .bool true) F37 rfl rfl rfl rfl (by kernel_rfl) (by kernel_rfl) (by kernel_rfl) (fun _ d _ _ _ h => by cases d <;> exact h) hS ?y38 (fun a38 F38 => ?h38)
  case y38 =>
    intro wS hSw; have e31 := F37.ev 31 rfl; have g31 := F37.get 31 _ rfl
    go_simp; try with_reducible rfl
  clear F37 a37
  refine sMove 6 F38 rfl rfl rfl rfl (by kernel_rfl) (by kernel_rfl) (by kernel_rfl) (fun _ d _ _ _ h => by cases d <;> exact h) hS rfl (fun a39 F39 => ?_)
  clear F38 a38
  refine sFree 7 (v := btv 1 3 5 (some ⟨w.heap.size, 0, none⟩) 2 2) F39 rfl rfl rfl rfl (by kernel_rfl) (by kernel_rfl) (by kernel_rfl) (fun _ d _ _ _ h => by cases d <;> exact h) hS ?y40 (fun a40 F40 => ?h40)
  case y40 =>
    intro wS hSw; have q := (OX7.below hSw).cs; have y0 := q.c0; have y1 := q.c1; have y2 := q.c2; have y3 := q.c3; clear q; have e1 := F39.ev 1 rfl; have g1 := F39.get 1 _ rfl
    go_simp; try with_reducible rfl
  clear F39 a39
  refine sFree 8 (v := btv 1 3 5 Ay ny cy) F40 rfl rfl rfl rfl (by kernel_rfl) (by kernel_rfl) (by kernel_rfl) (fun _ d _ _ _ h => by cases d <;> exact h) hS ?y41 (fun a41 F41 => ?h41)
  case y41 =>
    intro wS hSw; have q := (OY7.below hSw).cs; have y0 := q.c0; have y1 := q.c1; have y2 := q.c2; have y3 := q.c3; clear q; have e4 := F40.ev 4 rfl; have g4 := F40.get 4 _ rfl
    go_simp; try with_reducible rfl
  clear F40 a40
  refine sSolo 9 F41 rfl (by kernel_rfl) rfl (o1Call F41 rfl rfl (BSame_any kb (some ⟨w.heap.size, 0, none⟩) 2 2 kbl kb Ay ny cy ly _ DX DY rfl) ?y42 ?h42)
  case y42 =>
    have e34 := F41.ev 34 rfl; have g34 := F41.get 34 _ rfl; have e35 := F41.ev 35 rfl; have g35 := F41.get 35 _ rfl
    go_simp; try with_reducible rfl
  rintro e w8 ⟨rfl, hb⟩
  replace RG := RG.below hb
  replace DX := DX.below hb
  replace OX := OX.below hb
  replace hF := hF.below hb
  replace DY := DY.below hb
  replace OY := OY.below hb
  replace HB := below_then HB hb
  replace hS := below_then hS hb
  clear hb
  refine ⟨_, rfl, fun a42 F42 => ⟨hS, ?_⟩⟩
  clear F41 a41
  refine sMove 10 F42 rfl rfl rfl rfl (by kernel_rfl) (by kernel_rfl) (by kernel_rfl) (fun _ d _ _ _ h => by cases d <;> exact h) hS rfl (fun a43 F43 => ?_)
  clear F42 a42
  refine sMove 11 F43 rfl rfl rfl rfl (by kernel_rfl) (by kernel_rfl) (by kernel_rfl) (fun _ d _ _ _ h => by cases d <;> exact h) hS rfl (fun a44 F44 => ?_)
  clear F43 a43
  refine sMove 12 F44 rfl rfl rfl rfl (by kernel_rfl) (by kernel_rfl) (by kernel_rfl) (fun _ d _ _ _ h => by cases d <;> exact h) hS rfl (fun a45 F45 => ?_)
  clear F44 a44
  refine sMove 13 F45 rfl rfl rfl rfl (by kernel_rfl) (by kernel_rfl) (by kernel_rfl) (fun _ d _ _ _ h => by cases d <;> exact h) hS rfl (fun a46 F46 => ?_)
  clear F45 a45
  refine sFree 14 (v := ?v47) F46 rfl rfl rfl rfl (by kernel_rfl) (by kernel_rfl) (by kernel_rfl) (fun _ d _ _ _ h => by cases d <;> exact h) hS ?y47 (fun a47 F47 => ?h47)
  case y47 =>
    intro wS hSw; have e40 := F46.ev 40 rfl; have g40 := F46.get 40 _ rfl
    go_simp; try with_reducible rfl
  clear F46 a46
  refine sFree 15 (v := .bool true) F47 rfl rfl rfl rfl (by kernel_rfl) (by kernel_rfl) (by kernel_rfl) (fun _ d _ _ _ h => by cases d <;> exact h) hS ?y48 (fun a48 F48 => ?h48)
  case y48 =>
    intro wS hSw; have e39 := F47.ev 39 rfl; have g39 := F47.get 39 _ rfl; have e41 := F47.ev 41 rfl; have g41 := F47.get 41 _ rfl
    first | (go_simp; done) | (go_simp; omega)
  clear F47 a47
  refine sMove 16 F48 rfl rfl rfl rfl (by kernel_rfl) (by kernel_rfl) (by kernel_rfl) (fun _ d _ _ _ h => by cases d <;> exact h) hS rfl (fun a49 F49 => ?_)
  clear F48 a48
  refine sMove 17 F49 rfl rfl rfl rfl (by kernel_rfl) (by kernel_rfl) (by kernel_rfl) (fun _ d _ _ _ h => by cases d <;> exact h) hS rfl (fun a50 F50 => ?_)
  clear F49 a49
  refine sFree 18 (v := btv 1 3 5 (some ⟨w.heap.size, 0, none⟩) 2 2) F50 rfl rfl rfl rfl (by kernel_rfl) (by kernel_rfl) (by kernel_rfl) (fun _ d _ _ _ h => by cases d <;> exact h) hS ?y51 (fun a51 F51 => ?h51)
  case y51 =>
    intro wS hSw; have q := (OX7.below hSw).cs; have y0 := q.c0; have y1 := q.c1; have y2 := q.c2; have y3 := q.c3; clear q; have e1 := F50.ev 1 rfl; have g1 := F50.get 1 _ rfl
    go_simp; try with_reducible rfl
  clear F50 a50
  refine sFree 20 (v := stv 6 1) F51 rfl rfl rfl rfl (by kernel_rfl) (by kernel_rfl) (by kernel_rfl) (fun _ d _ _ _ h => by cases d <;> exact h) hS ?y52 (fun a52 F52 => ?h52)
  case y52 =>
    intro wS hSw; skip
    go_simp; try with_reducible rfl
  clear F51 a51
  refine sSolo 19 F52 rfl (by kernel_rfl) rfl (o1Call F52 rfl rfl (BStamp_any kb 1 (some ⟨w.heap.size, 0, none⟩) 2 2 kbl _ DX RG) ?y53 ?h53)
  case y53 =>
    have e45 := F52.ev 45 rfl; have g45 := F52.get 45 _ rfl
    go_simp; try with_reducible rfl
  rw [show bStamp kb 1 = (6, 1) by decide]
  rintro e w9 ⟨rfl, hb⟩
  replace RG := RG.below hb
  replace DX := DX.below hb
  replace OX := OX.below hb
  replace hF := hF.below hb
  replace DY := DY.below hb
  replace OY := OY.below hb
  replace HB := below_then HB hb
  replace hS := below_then hS hb
  clear hb
  refine ⟨_, rfl, fun a53 F53 => ⟨hS, ?_⟩⟩
  clear F52 a52
  refine sFree 21 (v := .bool true) F53 rfl rfl rfl rfl (by kernel_rfl) (by kernel_rfl) (by kernel_rfl) (fun _ d _ _ _ h => by cases d <;> exact h) hS ?y54 (fun a54 F54 => ?h54)
  case y54 =>
    intro wS hSw; have e46 := F53.ev 46 rfl; have g46 := F53.get 46 _ rfl; have e47 := F53.ev 47 rfl; have g47 := F53.get 47 _ rfl
    go_simp; try with_reducible rfl
  clear F53 a53
  refine sMove 22 F54 rfl rfl rfl rfl (by kernel_rfl) (by kernel_rfl) (by kernel_rfl) (fun _ d _ _ _ h => by cases d <;> exact h) hS rfl (fun a55 F55 => ?_)
  clear F54 a54
  refine sMove 23 F55 rfl rfl rfl rfl (by kernel_rfl) (by kernel_rfl) (by kernel_rfl) (fun _ d _ _ _ h => by cases d <;> exact h) hS rfl (fun a56 F56 => ?_)
  clear F55 a55
  refine sFree 24 (v := btv 1 3 5 (some ⟨w.heap.size, 0, none⟩) 2 2) F56 rfl rfl rfl rfl (by kernel_rfl) (by kernel_rfl) (by kernel_rfl) (fun _ d _ _ _ h => by cases d <;> exact h) hS ?y57 (fun a57 F57 => ?h57)
  case y57 =>
    intro wS hSw; have q := (OX7.below hSw).cs; have y0 := q.c0; have y1 := q.c1; have y2 := q.c2; have y3 := q.c3; clear q; have e1 := F56.ev 1 rfl; have g1 := F56.get 1 _ rfl
    go_simp; try with_reducible rfl
  clear F56 a56
  refine sFree 26 (v := btv 1 3 5 Ay ny cy) F57 rfl rfl rfl rfl (by kernel_rfl) (by kernel_rfl) (by kernel_rfl) (fun _ d _ _ _ h => by cases d <;> exact h) hS ?y58 (fun a58 F58 => ?h58)
  case y58 =>
    intro wS hSw; have q := (OY7.below hSw).cs; have y0 := q.c0; have y1 := q.c1; have y2 := q.c2; have y3 := q.c3; clear q; have e4 := F57.ev 4 rfl; have g4 := F57.get 4 _ rfl
    go_simp; try with_reducible rfl
  clear F57 a57
  refine sSolo 25 F58 rfl (by kernel_rfl) rfl (o1Call F58 rfl rfl (BEnd_any kb (some ⟨w.heap.size, 0, none⟩) 2 2 kbl _ DX RG) ?y59 ?h59)
  case y59 =>
    have e51 := F58.ev 51 rfl; have g51 := F58.get 51 _ rfl
    go_simp; try with_reducible rfl
  rw [show bStamp kb (((2 : Nat) : Int) - 1) = (6, 1) by decide]
  rintro e w10 ⟨rfl, hb⟩
  replace RG := RG.below hb
  replace DX := DX.below hb
  replace OX := OX.below hb
  replace hF := hF.below hb
  replace DY := DY.below hb
  replace OY := OY.below hb
  replace HB := below_then HB hb
  replace hS := below_then hS hb
  clear hb
  refine ⟨_, rfl, fun a59 F59 => ⟨hS, ?_⟩⟩
  clear F58 a58
  refine sSolo 27 F59 rfl (by kernel_rfl) rfl (o1Call F59 rfl rfl (BStamp_any kb 1 Ay ny cy ly _ DY RG) ?y60 ?h60)
  case y60 =>
    have e53 := F59.ev 53 rfl; have g53 := F59.get 53 _ rfl
    go_simp; try with_reducible rfl
  rw [show bStamp kb 1 = (6, 1) by decide]
  rintro e w11 ⟨rfl, hb⟩
  replace RG := RG.below hb
  replace DX := DX.below hb
  replace OX := OX.below hb
  replace hF := hF.below hb
  replace DY := DY.below hb
  replace OY := OY.below hb
  replace HB := below_then HB hb
  replace hS := below_then hS hb
  clear hb
  refine ⟨_, rfl, fun a60 F60 => ⟨hS, ?_⟩⟩
  clear F59 a59
  refine sFree 28 (v := .bool true) F60 rfl rfl rfl rfl (by kernel_rfl) (by kernel_rfl) (by kernel_rfl) (fun _ d _ _ _ h => by cases d <;> exact h) hS ?y61 (fun a61 F61 => ?h61)
  case y61 =>
    intro wS hSw; have e52 := F60.ev 52 rfl; have g52 := F60.get 52 _ rfl; have e54 := F60.ev 54 rfl; have g54 := F60.get 54 _ rfl
    go_simp; try with_reducible rfl
  clear F60 a60
  refine sMove 29 F61 rfl rfl rfl rfl (by kernel_rfl) (by kernel_rfl) (by kernel_rfl) (fun _ d _ _ _ h => by cases d <;> exact h) hS rfl (fun a62 F62 => ?_)
  clear F61 a61
  refine sMove 30 F62 rfl rfl rfl rfl (by kernel_rfl) (by kernel_rfl) (by kernel_rfl) (fun _ d _ _ _ h => by cases d <;> exact h) hS rfl (fun a63 F63 => ?_)
  clear F62 a62
  refine sFree 31 (v := btv 1 3 5 (some ⟨w.heap.size, 0, none⟩) 2 2) F63 rfl rfl rfl rfl (by kernel_rfl) (by kernel_rfl) (by kernel_rfl) (fun _ d _ _ _ h => by cases d <;> exact h) hS ?y64 (fun a64 F64 => ?h64)
  case y64 =>
    intro wS hSw; have q := (OX7.below hSw).cs; have y0 := q.c0; have y1 := q.c1; have y2 := q.c2; have y3 := q.c3; clear q; have e1 := F63.ev 1 rfl; have g1 := F63.get 1 _ rfl
    go_simp; try with_reducible rfl
  clear F63 a63
  refine sSolo 32 F64 rfl (by kernel_rfl) rfl (o1Call F64 rfl rfl (BRight_any kb (some ⟨w.heap.size, 0, none⟩) 2 2 kbl _ DX RG) ?y65 ?h65)
  case y65 =>
    have e58 := F64.ev 58 rfl; have g58 := F64.get 58 _ rfl
    go_simp; try with_reducible rfl
  rw [kb_right]
  rintro e w12 ⟨rfl, hb⟩
  replace RG := RG.below hb
  replace DX := DX.below hb
  replace OX := OX.below hb
  replace hF := hF.below hb
  replace DY := DY.below hb
  replace OY := OY.below hb
  replace HB := below_then HB hb
  replace hS := below_then hS hb
  clear hb
  refine ⟨_, rfl, fun a65 F65 => ⟨hS, ?_⟩⟩
  clear F64 a64
  refine sMove 33 F65 rfl rfl rfl rfl (by kernel_rfl) (by kernel_rfl) (by kernel_rfl) (fun _ d _ _ _ h => by cases d <;> exact h) hS rfl (fun a66 F66 => ?_)
  clear F65 a65
  refine sMove 34 F66 rfl rfl rfl rfl (by kernel_rfl) (by kernel_rfl) (by kernel_rfl) (fun _ d _ _ _ h => by cases d <;> exact h) hS rfl (fun a67 F67 => ?_)
  clear F66 a66
  refine sFin (by kernel_rfl) ?_
  refine frNext ?_
  refine wp_ret ?_
  exact frRet1 rfl F67 rfl ⟨rfl, HB⟩
end Go.Proofs.YtnakanophilfhaaDoor
