/- Layer 7: Own, long. -/
import Derived.Test.YtnakanophilfhaaDoorOpT
namespace Go.Proofs.YtnakanophilfhaaDoor
open Go.RowKit Go.Dio
set_option linter.unusedVariables false
set_option linter.unusedSimpArgs false

/-- An op of the document in memory. -/
@[reducible] def o7 (d : OpD) (A : Option Addr) (n c : Nat) : Obj := .cells (oxs d A n c) 28
structure O7At (w : World) (b : Nat) (d : OpD) (A : Option Addr) (n c : Nat) : Prop where
  own : w.heap[b]? = some (o7 d A n c)
theorem O7At.lt {w : World} {b : Nat} {d : OpD} {A : Option Addr} {n c : Nat} (h : O7At w b d A n c) : b < w.heap.size := (Array.getElem?_eq_some_iff.1 h.own).1
theorem O7At.below {w w' : World} {b : Nat} {d : OpD} {A : Option Addr} {n c : Nat} (h : O7At w b d A n c) (hb : Below w.heap.size w w') : O7At w' b d A n c := ⟨by rw [hb.block b h.lt]; exact h.own⟩
theorem O7At.new (w : World) (d : OpD) (A : Option Addr) (n c : Nat) (b : Nat) (hb : w.heap.size = b) : O7At (w.alloc (o7 d A n c)) b d A n c := by subst hb; exact ⟨new_at _ _⟩
theorem O7At.cs {w : World} {b : Nat} {d : OpD} {A : Option Addr} {n c : Nat} (h : O7At w b d A n c) : OCells w b d A n c :=
  ⟨cell_of h.own 0 rfl, cell_of h.own 1 rfl, cell_of h.own 2 rfl, cell_of h.own 3 rfl, cell_of h.own 4 rfl, cell_of h.own 5 rfl, cell_of h.own 6 rfl, cell_of h.own 7 rfl, cell_of h.own 8 rfl, cell_of h.own 9 rfl, cell_of h.own 10 rfl, cell_of h.own 11 rfl⟩

/-- Is it too large for the statements? -/
def olong (d : OpD) : Bool := decide (500 < d.path.length) || decide (5000 < d.key.size) || decide (5000 < d.vt.size)
theorem long7_any (d : OpD) (A : Option Addr) (n c : Nat) (w : World) (hl : d.path.length = n) (hk : d.key.size ≤ 9223372036854775807) (ht : d.vt.size ≤ 9223372036854775807) :
    Calls Tryd.prog 10 #[opv d A n c] w fun e w' => e = .returned (.bool (olong d)) ∧ Below w.heap.size w w' := by
  by_cases h1 : 500 < n
  · have F := hid (show olong d = true by simp [olong, hl, h1])
    clear hl
    go_enter Tryd.func10, Tryd.ntmps10
    go_wp2_with fail
    go_ret
    exact ⟨by rw [F.out]; rfl, below_alloc1 _ _⟩
  · by_cases h2 : 5000 < d.key.size
    · have F := hid (show olong d = true by simp [olong, h2])
      clear hl
      go_enter Tryd.func10, Tryd.ntmps10
      go_wp2_with fail
      go_ret
      exact ⟨by rw [F.out]; rfl, below_alloc1 _ _⟩
    · have F := hid (show olong d = decide (5000 < d.vt.size) by simp [olong, hl, h1, h2])
      clear hl
      go_enter Tryd.func10, Tryd.ntmps10
      go_wp2_with fail
      go_ret
      rw [F.out]
      refine ⟨?_, below_alloc1 _ _⟩
      first | rfl | (simp; done) | (rw [Ending.returned.injEq, Value.bool.injEq, Bool.eq_iff_iff]; simp; omega) | (refine ret_bool ?_; rw [Bool.eq_iff_iff]; simp; omega)

theorem OAt.set12 {w : World} {b : Nat} {d0 : OpD} {A0 : Option Addr} {n0 c0 : Nat} (h : OAt w b d0 A0 n0 c0) (d : OpD) (A : Option Addr) (n c : Nat) : OAt ((((((((((((w.setCell ⟨b, 0, none⟩ (.int .i64 d.k)).setCell ⟨b, 1, none⟩ (.int .i64 d.n1)).setCell ⟨b, 2, none⟩ (.int .i64 d.n2)).setCell ⟨b, 3, none⟩ (.int .i64 d.r1)).setCell ⟨b, 4, none⟩ (.int .i64 d.r2)).setCell ⟨b, 5, none⟩ (.string d.key)).setCell ⟨b, 6, none⟩ (.slice A n c)).setCell ⟨b, 7, none⟩ (.int .i64 d.prop)).setCell ⟨b, 8, none⟩ (.int .i64 d.vk)).setCell ⟨b, 9, none⟩ (.int .i64 d.vn)).setCell ⟨b, 10, none⟩ (.string d.vt)).setCell ⟨b, 11, none⟩ (.bool d.on)) b d A n c := ⟨by simp [World.setCell, Array.getElem?_modify, h.own]⟩
theorem IsSt.move {w w' : World} {A : Option Addr} {n c : Nat} {l : List (Int × Int)} (h : IsSt w A n c l) (hk : ∀ a, A = some a → w'.heap[a.block]? = w.heap[a.block]?) : IsSt w' A n c l := ⟨h.len, h.cap, h.max, h.cells.move hk⟩

set_option maxRecDepth 100000 in
set_option maxHeartbeats 8000000 in
theorem Own7_any (k n1 n2 r1 r2 : Int) (key : ByteArray) (path : List (Int × Int)) (prop vk vn : Int) (vt : ByteArray) (on : Bool) (A : Option Addr) (n c : Nat) (w : World) (hl : IsSt w A n c path) (hn : n ≤ 500) :
    Calls Tryd.prog 13 #[opv ⟨k, n1, n2, r1, r2, key, path, prop, vk, vn, vt, on⟩ A n c] w fun e w' => (∃ A' c', e = .returned (opv ⟨k, n1, n2, r1, r2, key, path, prop, vk, vn, vt, on⟩ A' n c') ∧ IsSt w' A' n c' path) ∧ Below w.heap.size w w' := by
  have HLN := hid hl.len
  have W0 := hid (below_alloc1 w (o7 ⟨k, n1, n2, r1, r2, key, path, prop, vk, vn, vt, on⟩ A n c))
  have O0 := hid (O7At.new w ⟨k, n1, n2, r1, r2, key, path, prop, vk, vn, vt, on⟩ A n c _ rfl)
  have L0 := hid (hl.below W0.out)
  have Z0 := hid (OAt.new (w.alloc (o7 ⟨k, n1, n2, r1, r2, key, path, prop, vk, vn, vt, on⟩ A n c)) ⟨0, 0, 0, 0, 0, ⟨#[]⟩, [], 0, 0, 0, ⟨#[]⟩, false⟩ none 0 0 (w.heap.size + 1) (by simp))
  have hsz : (w.alloc (o7 ⟨k, n1, n2, r1, r2, key, path, prop, vk, vn, vt, on⟩ A n c)).heap.size = w.heap.size + 1 := by simp
  clear hl
  go_enter Tryd.func13, Tryd.ntmps13
  go_wp2_with fail
  generalize hW : w.alloc (o7 ⟨k, n1, n2, r1, r2, key, path, prop, vk, vn, vt, on⟩ A n c) = W at *
  have B0 := hid (below_alloc1 W (oo ⟨0, 0, 0, 0, 0, ⟨#[]⟩, [], 0, 0, 0, ⟨#[]⟩, false⟩ none 0 0)).drew
  generalize hV : W.alloc (oo ⟨0, 0, 0, 0, 0, ⟨#[]⟩, [], 0, 0, 0, ⟨#[]⟩, false⟩ none 0 0) = V at *
  have hvs : V.heap.size = w.heap.size + 2 := by rw [← hV]; simp [hsz]
  clear hW hV
  have hHeld0 := B0.out
  refine wp_region_held_drew (S := fun w' => Below W.heap.size W w') (by kernel_rfl) (by exact hHeld0) (fun hHeld => ?_)
  clear hHeld0
  refine takeL 0 (v := ?_) rfl (by kernel_rfl) (by kernel_rfl) (by kernel_rfl) (fun _ _ _ h => h) (by rfl) ?_ (by assumption) ?_
  case' refine_2 => (intro w hSw; (try dsimp only at hSw); have q := (O0.out.below hSw).cs; have y0 := q.c0; have y1 := q.c1; have y2 := q.c2; have y3 := q.c3; have y4 := q.c4; have y5 := q.c5; have y6 := q.c6; have y7 := q.c7; have y8 := q.c8; have y9 := q.c9; have y10 := q.c10; have y11 := q.c11; clear q; go_simp; try with_reducible rfl)
  try simp only [Act.put, List.setIfInBounds_toArray, List.set_cons_zero, List.set_cons_succ]
  refine takeL 1 (v := ?_) rfl (by kernel_rfl) (by kernel_rfl) (by kernel_rfl) (fun _ _ _ h => h) (by rfl) ?_ (by assumption) ?_
  case' refine_2 => (intro w hSw; (try dsimp only at hSw); have q := (O0.out.below hSw).cs; have y0 := q.c0; have y1 := q.c1; have y2 := q.c2; have y3 := q.c3; have y4 := q.c4; have y5 := q.c5; have y6 := q.c6; have y7 := q.c7; have y8 := q.c8; have y9 := q.c9; have y10 := q.c10; have y11 := q.c11; clear q; go_simp; try with_reducible rfl)
  try simp only [Act.put, List.setIfInBounds_toArray, List.set_cons_zero, List.set_cons_succ]
  refine takeL 2 (v := ?_) rfl (by kernel_rfl) (by kernel_rfl) (by kernel_rfl) (fun _ _ _ h => h) (by rfl) ?_ (by assumption) ?_
  case' refine_2 => (intro w hSw; (try dsimp only at hSw); have q := (O0.out.below hSw).cs; have y0 := q.c0; have y1 := q.c1; have y2 := q.c2; have y3 := q.c3; have y4 := q.c4; have y5 := q.c5; have y6 := q.c6; have y7 := q.c7; have y8 := q.c8; have y9 := q.c9; have y10 := q.c10; have y11 := q.c11; clear q; go_simp; try with_reducible rfl)
  try simp only [Act.put, List.setIfInBounds_toArray, List.set_cons_zero, List.set_cons_succ]
  refine takeL 3 (v := ?_) rfl (by kernel_rfl) (by kernel_rfl) (by kernel_rfl) (fun _ _ _ h => h) (by rfl) ?_ (by assumption) ?_
  case' refine_2 => (intro w hSw; (try dsimp only at hSw); have q := (O0.out.below hSw).cs; have y0 := q.c0; have y1 := q.c1; have y2 := q.c2; have y3 := q.c3; have y4 := q.c4; have y5 := q.c5; have y6 := q.c6; have y7 := q.c7; have y8 := q.c8; have y9 := q.c9; have y10 := q.c10; have y11 := q.c11; clear q; go_simp; try with_reducible rfl)
  try simp only [Act.put, List.setIfInBounds_toArray, List.set_cons_zero, List.set_cons_succ]
  refine takeL 4 (v := ?_) rfl (by kernel_rfl) (by kernel_rfl) (by kernel_rfl) (fun _ _ _ h => h) (by rfl) ?_ (by assumption) ?_
  case' refine_2 => (intro w hSw; (try dsimp only at hSw); have q := (O0.out.below hSw).cs; have y0 := q.c0; have y1 := q.c1; have y2 := q.c2; have y3 := q.c3; have y4 := q.c4; have y5 := q.c5; have y6 := q.c6; have y7 := q.c7; have y8 := q.c8; have y9 := q.c9; have y10 := q.c10; have y11 := q.c11; clear q; go_simp; try with_reducible rfl)
  try simp only [Act.put, List.setIfInBounds_toArray, List.set_cons_zero, List.set_cons_succ]
  refine takeL 5 (v := ?_) rfl (by kernel_rfl) (by kernel_rfl) (by kernel_rfl) (fun _ _ _ h => h) (by rfl) ?_ (by assumption) ?_
  case' refine_2 => (intro w hSw; (try dsimp only at hSw); have q := (O0.out.below hSw).cs; have y0 := q.c0; have y1 := q.c1; have y2 := q.c2; have y3 := q.c3; have y4 := q.c4; have y5 := q.c5; have y6 := q.c6; have y7 := q.c7; have y8 := q.c8; have y9 := q.c9; have y10 := q.c10; have y11 := q.c11; clear q; go_simp; try with_reducible rfl)
  try simp only [Act.put, List.setIfInBounds_toArray, List.set_cons_zero, List.set_cons_succ]
  refine takeL 6 (v := ?_) rfl (by kernel_rfl) (by kernel_rfl) (by kernel_rfl) (fun _ _ _ h => h) (by rfl) ?_ (by assumption) ?_
  case' refine_2 => (intro w hSw; (try dsimp only at hSw); have q := (O0.out.below hSw).cs; have y0 := q.c0; have y1 := q.c1; have y2 := q.c2; have y3 := q.c3; have y4 := q.c4; have y5 := q.c5; have y6 := q.c6; have y7 := q.c7; have y8 := q.c8; have y9 := q.c9; have y10 := q.c10; have y11 := q.c11; clear q; go_simp; try with_reducible rfl)
  try simp only [Act.put, List.setIfInBounds_toArray, List.set_cons_zero, List.set_cons_succ]
  refine takeL 7 (v := ?_) rfl (by kernel_rfl) (by kernel_rfl) (by kernel_rfl) (fun _ _ _ h => h) (by rfl) ?_ (by assumption) ?_
  case' refine_2 => (intro w hSw; (try dsimp only at hSw); have q := (O0.out.below hSw).cs; have y0 := q.c0; have y1 := q.c1; have y2 := q.c2; have y3 := q.c3; have y4 := q.c4; have y5 := q.c5; have y6 := q.c6; have y7 := q.c7; have y8 := q.c8; have y9 := q.c9; have y10 := q.c10; have y11 := q.c11; clear q; go_simp; try with_reducible rfl)
  try simp only [Act.put, List.setIfInBounds_toArray, List.set_cons_zero, List.set_cons_succ]
  refine takeL 9 (v := ?_) rfl (by kernel_rfl) (by kernel_rfl) (by kernel_rfl) (fun _ _ _ h => h) (by rfl) ?_ (by assumption) ?_
  case' refine_2 => (intro w hSw; (try dsimp only at hSw); have q := (O0.out.below hSw).cs; have y0 := q.c0; have y1 := q.c1; have y2 := q.c2; have y3 := q.c3; have y4 := q.c4; have y5 := q.c5; have y6 := q.c6; have y7 := q.c7; have y8 := q.c8; have y9 := q.c9; have y10 := q.c10; have y11 := q.c11; clear q; go_simp; try with_reducible rfl)
  try simp only [Act.put, List.setIfInBounds_toArray, List.set_cons_zero, List.set_cons_succ]
  refine takeL 10 (v := ?_) rfl (by kernel_rfl) (by kernel_rfl) (by kernel_rfl) (fun _ _ _ h => h) (by rfl) ?_ (by assumption) ?_
  case' refine_2 => (intro w hSw; (try dsimp only at hSw); have q := (O0.out.below hSw).cs; have y0 := q.c0; have y1 := q.c1; have y2 := q.c2; have y3 := q.c3; have y4 := q.c4; have y5 := q.c5; have y6 := q.c6; have y7 := q.c7; have y8 := q.c8; have y9 := q.c9; have y10 := q.c10; have y11 := q.c11; clear q; go_simp; try with_reducible rfl)
  try simp only [Act.put, List.setIfInBounds_toArray, List.set_cons_zero, List.set_cons_succ]
  refine takeL 12 (v := ?_) rfl (by kernel_rfl) (by kernel_rfl) (by kernel_rfl) (fun _ _ _ h => h) (by rfl) ?_ (by assumption) ?_
  case' refine_2 => (intro w hSw; (try dsimp only at hSw); have q := (O0.out.below hSw).cs; have y0 := q.c0; have y1 := q.c1; have y2 := q.c2; have y3 := q.c3; have y4 := q.c4; have y5 := q.c5; have y6 := q.c6; have y7 := q.c7; have y8 := q.c8; have y9 := q.c9; have y10 := q.c10; have y11 := q.c11; clear q; go_simp; try with_reducible rfl)
  try simp only [Act.put, List.setIfInBounds_toArray, List.set_cons_zero, List.set_cons_succ]
  refine takeL 13 (v := ?_) rfl (by kernel_rfl) (by kernel_rfl) (by kernel_rfl) (fun _ _ _ h => h) (by rfl) ?_ (by assumption) ?_
  case' refine_2 => (intro w hSw; (try dsimp only at hSw); have q := (O0.out.below hSw).cs; have y0 := q.c0; have y1 := q.c1; have y2 := q.c2; have y3 := q.c3; have y4 := q.c4; have y5 := q.c5; have y6 := q.c6; have y7 := q.c7; have y8 := q.c8; have y9 := q.c9; have y10 := q.c10; have y11 := q.c11; clear q; go_simp; try with_reducible rfl)
  try simp only [Act.put, List.setIfInBounds_toArray, List.set_cons_zero, List.set_cons_succ]
  refine takeL 14 (v := ?_) rfl (by kernel_rfl) (by kernel_rfl) (by kernel_rfl) (fun _ _ _ h => h) (by rfl) ?_ (by assumption) ?_
  case' refine_2 => (intro w hSw; (try dsimp only at hSw); have q := (O0.out.below hSw).cs; have y0 := q.c0; have y1 := q.c1; have y2 := q.c2; have y3 := q.c3; have y4 := q.c4; have y5 := q.c5; have y6 := q.c6; have y7 := q.c7; have y8 := q.c8; have y9 := q.c9; have y10 := q.c10; have y11 := q.c11; clear q; go_simp; try with_reducible rfl)
  try simp only [Act.put, List.setIfInBounds_toArray, List.set_cons_zero, List.set_cons_succ]
  refine takeL 15 (v := ?_) rfl (by kernel_rfl) (by kernel_rfl) (by kernel_rfl) (fun _ _ _ h => h) (by rfl) ?_ (by assumption) ?_
  case' refine_2 => (intro w hSw; (try dsimp only at hSw); have q := (O0.out.below hSw).cs; have y0 := q.c0; have y1 := q.c1; have y2 := q.c2; have y3 := q.c3; have y4 := q.c4; have y5 := q.c5; have y6 := q.c6; have y7 := q.c7; have y8 := q.c8; have y9 := q.c9; have y10 := q.c10; have y11 := q.c11; clear q; go_simp; try with_reducible rfl)
  try simp only [Act.put, List.setIfInBounds_toArray, List.set_cons_zero, List.set_cons_succ]
  refine takeL 16 (v := ?_) rfl (by kernel_rfl) (by kernel_rfl) (by kernel_rfl) (fun _ _ _ h => h) (by rfl) ?_ (by assumption) ?_
  case' refine_2 => (intro w hSw; (try dsimp only at hSw); have q := (O0.out.below hSw).cs; have y0 := q.c0; have y1 := q.c1; have y2 := q.c2; have y3 := q.c3; have y4 := q.c4; have y5 := q.c5; have y6 := q.c6; have y7 := q.c7; have y8 := q.c8; have y9 := q.c9; have y10 := q.c10; have y11 := q.c11; clear q; go_simp; try with_reducible rfl)
  try simp only [Act.put, List.setIfInBounds_toArray, List.set_cons_zero, List.set_cons_succ]
  refine takeL 17 (v := ?_) rfl (by kernel_rfl) (by kernel_rfl) (by kernel_rfl) (fun _ _ _ h => h) (by rfl) ?_ (by assumption) ?_
  case' refine_2 => (intro w hSw; (try dsimp only at hSw); have q := (O0.out.below hSw).cs; have y0 := q.c0; have y1 := q.c1; have y2 := q.c2; have y3 := q.c3; have y4 := q.c4; have y5 := q.c5; have y6 := q.c6; have y7 := q.c7; have y8 := q.c8; have y9 := q.c9; have y10 := q.c10; have y11 := q.c11; clear q; go_simp; try with_reducible rfl)
  try simp only [Act.put, List.setIfInBounds_toArray, List.set_cons_zero, List.set_cons_succ]
  refine soloL 8 rfl (by kernel_rfl) (fun K hK => ?_)
  go_simp
  have hS := hHeld.alloc hHeld.size (.cells #[] 23)
  refine hK.out _ (V.drew.alloc (.cells #[] 23)) hS (fun hHeld2 => ?_)
  clear hK K hHeld2 hHeld
  have Z1 := hid ((Z0.out.drew).below (below_alloc1 V.drew (.cells #[] 23)))
  have hle : V.drew.heap.size ≤ (V.drew.alloc (.cells #[] 23)).heap.size := (below_alloc1 _ _).size
  have hvd : V.drew.heap.size = w.heap.size + 2 := hvs
  have hst : (V.drew.alloc (.cells #[] 23)).ownsRow (w.heap.size + 2) 23 2 (.slice (some ⟨w.heap.size + 2, 0, none⟩) 0 0) 0 [] := by
    rw [← hvd]; exact st_lit V.drew V.drew.heap.size (Nat.le_refl _)
  rw [hvd] at hle
  refine soloL 11 rfl (by kernel_rfl) (fun K hK => ?_)
  rw [if_pos (by kernel_rfl)]
  refine wp_append (w.heap.size + 2) _ _ 24 23 (.agg #[.int .i64 0, .int .i64 0]) 2 16 rfl Tryd.underlying24 info_st rfl (by omega) (by omega) _ 0 n [] (sv path) A c rfl rfl hst ((L0.out.below hS).cells) (by rw [sv_length, HLN.out]) (sv_one path) hle (by omega) ?_
  intro v14 w14 ho14 hg14 hat14
  have hS2 := hS.grown hg14 hS.size (fun q hq => by have := owns_base hst q hq; omega)
  have Z2 := hid (show OAt w14 (w.heap.size + 1) ⟨0, 0, 0, 0, 0, ⟨#[]⟩, [], 0, 0, 0, ⟨#[]⟩, false⟩ none 0 0 from ⟨by rw [hg14.block _ Z1.out.lt (fun e => by have := owns_base hst _ e.symm; omega)]; exact Z1.out.own⟩)
  clear hg14 hat14 Z1 hS hle
  obtain ⟨A14, c14, rfl, hn14, hc14, hC14, hA14⟩ := owns_form ho14
  rw [Nat.zero_add] at hn14 ⊢
  rw [List.nil_append] at hC14
  have L14 := hid (show IsSt w14 A14 n c14 path from ⟨HLN.out, hn14, hc14, hC14⟩)
  clear ho14 hC14
  refine hK.out _ _ hS2 (fun hHeld => ?_)
  clear hK K
  refine takeL 18 (v := ?_) rfl (by kernel_rfl) (by kernel_rfl) (by kernel_rfl) (fun _ _ _ h => h) (by rfl) ?_ (by assumption) ?_
  case' refine_2 => (intro w hSw; (try dsimp only at hSw); go_simp; try with_reducible rfl)
  try simp only [Act.put, List.setIfInBounds_toArray, List.set_cons_zero, List.set_cons_succ]
  have zz := Z2.out.cs
  have z0 := zz.c0; have z1 := zz.c1; have z2 := zz.c2; have z3 := zz.c3; have z4 := zz.c4; have z5 := zz.c5; have z6 := zz.c6; have z7 := zz.c7; have z8 := zz.c8; have z9 := zz.c9; have z10 := zz.c10; have z11 := zz.c11
  have zf := Z2.out.fz
  have zl := Z2.out.lt
  clear zz
  refine soloL 19 rfl (by kernel_rfl) (fun K hK => ?_)
  go_simp
  have B3 := hid (below_put (below_put (below_put (below_put (below_put (below_put (below_put (below_put (below_put (below_put (below_put (below_put hS2 (w.heap.size + 1) 0 (.int .i64 k) (by omega)) (w.heap.size + 1) 1 (.int .i64 n1) (by omega)) (w.heap.size + 1) 2 (.int .i64 n2) (by omega)) (w.heap.size + 1) 3 (.int .i64 r1) (by omega)) (w.heap.size + 1) 4 (.int .i64 r2) (by omega)) (w.heap.size + 1) 5 (.string key) (by omega)) (w.heap.size + 1) 6 (.slice A14 n c14) (by omega)) (w.heap.size + 1) 7 (.int .i64 prop) (by omega)) (w.heap.size + 1) 8 (.int .i64 vk) (by omega)) (w.heap.size + 1) 9 (.int .i64 vn) (by omega)) (w.heap.size + 1) 10 (.string vt) (by omega)) (w.heap.size + 1) 11 (.bool on) (by omega))
  have Z3 := hid (Z2.out.set12 (OpD.mk k n1 n2 r1 r2 key path prop vk vn vt on) A14 n c14)
  have L3 := hid (L14.out.move (w' := ((((((((((((w14.setCell ⟨w.heap.size + 1, 0, none⟩ (.int .i64 k)).setCell ⟨w.heap.size + 1, 1, none⟩ (.int .i64 n1)).setCell ⟨w.heap.size + 1, 2, none⟩ (.int .i64 n2)).setCell ⟨w.heap.size + 1, 3, none⟩ (.int .i64 r1)).setCell ⟨w.heap.size + 1, 4, none⟩ (.int .i64 r2)).setCell ⟨w.heap.size + 1, 5, none⟩ (.string key)).setCell ⟨w.heap.size + 1, 6, none⟩ (.slice A14 n c14)).setCell ⟨w.heap.size + 1, 7, none⟩ (.int .i64 prop)).setCell ⟨w.heap.size + 1, 8, none⟩ (.int .i64 vk)).setCell ⟨w.heap.size + 1, 9, none⟩ (.int .i64 vn)).setCell ⟨w.heap.size + 1, 10, none⟩ (.string vt)).setCell ⟨w.heap.size + 1, 11, none⟩ (.bool on))) fun a ha => by
    have hne : a.block ≠ w.heap.size + 1 := by have := (hA14 a ha).1; omega
    rw [Below.heap_setCell _ ⟨w.heap.size + 1, 11, none⟩ _ a.block hne, Below.heap_setCell _ ⟨w.heap.size + 1, 10, none⟩ _ a.block hne, Below.heap_setCell _ ⟨w.heap.size + 1, 9, none⟩ _ a.block hne, Below.heap_setCell _ ⟨w.heap.size + 1, 8, none⟩ _ a.block hne, Below.heap_setCell _ ⟨w.heap.size + 1, 7, none⟩ _ a.block hne, Below.heap_setCell _ ⟨w.heap.size + 1, 6, none⟩ _ a.block hne, Below.heap_setCell _ ⟨w.heap.size + 1, 5, none⟩ _ a.block hne, Below.heap_setCell _ ⟨w.heap.size + 1, 4, none⟩ _ a.block hne, Below.heap_setCell _ ⟨w.heap.size + 1, 3, none⟩ _ a.block hne, Below.heap_setCell _ ⟨w.heap.size + 1, 2, none⟩ _ a.block hne, Below.heap_setCell _ ⟨w.heap.size + 1, 1, none⟩ _ a.block hne, Below.heap_setCell _ ⟨w.heap.size + 1, 0, none⟩ _ a.block hne])
  clear Z2 L14 zf zl z0 z1 z2 z3 z4 z5 z6 z7 z8 z9 z10 z11 hHeld
  refine hK.out _ _ B3.out (fun hHeld => ?_)
  clear hK K hHeld
  generalize ((((((((((((w14.setCell ⟨w.heap.size + 1, 0, none⟩ (.int .i64 k)).setCell ⟨w.heap.size + 1, 1, none⟩ (.int .i64 n1)).setCell ⟨w.heap.size + 1, 2, none⟩ (.int .i64 n2)).setCell ⟨w.heap.size + 1, 3, none⟩ (.int .i64 r1)).setCell ⟨w.heap.size + 1, 4, none⟩ (.int .i64 r2)).setCell ⟨w.heap.size + 1, 5, none⟩ (.string key)).setCell ⟨w.heap.size + 1, 6, none⟩ (.slice A14 n c14)).setCell ⟨w.heap.size + 1, 7, none⟩ (.int .i64 prop)).setCell ⟨w.heap.size + 1, 8, none⟩ (.int .i64 vk)).setCell ⟨w.heap.size + 1, 9, none⟩ (.int .i64 vn)).setCell ⟨w.heap.size + 1, 10, none⟩ (.string vt)).setCell ⟨w.heap.size + 1, 11, none⟩ (.bool on)) = U at *
  refine wpAnyH_done (by kernel_rfl) ?_ _
  have zz := Z3.out.cs
  have z0 := zz.c0; have z1 := zz.c1; have z2 := zz.c2; have z3 := zz.c3; have z4 := zz.c4; have z5 := zz.c5; have z6 := zz.c6; have z7 := zz.c7; have z8 := zz.c8; have z9 := zz.c9; have z10 := zz.c10; have z11 := zz.c11
  clear zz
  dsimp only at z0 z1 z2 z3 z4 z5 z7 z8 z9 z10 z11
  go_wp2_with fail
  (try simp only [Exit.inBlock, Exit.then]); refine bodyPost_ret (v := opv (OpD.mk k n1 n2 r1 r2 key path prop vk vn vt on) A14 n c14) (by simp [results, show Tryd.f13.results = #[.cell 2 35] from rfl, go_sem, *]) rfl ?_
  exact ⟨⟨A14, c14, rfl, L3.out⟩, below_then W0.out B3.out⟩
end Go.Proofs.YtnakanophilfhaaDoor
