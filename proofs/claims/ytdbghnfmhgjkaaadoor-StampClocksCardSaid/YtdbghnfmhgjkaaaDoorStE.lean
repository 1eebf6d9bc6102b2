/- Layer 2: an act on both clocks. -/
import Derived.Test.YtdbghnfmhgjkaaaDoorShS
import Derived.Test.YtdbghnfmhgjkaaaDoorReg
namespace Go.Proofs.YtdbghnfmhgjkaaaDoor
open Go.RowKit Go.Dio
set_option linter.unusedVariables false
set_option linter.unusedSimpArgs false

/-- All blocks but these are as they were. -/
structure Kept (bs : List Nat) (w w' : World) : Prop where
  os : w'.os = w.os
  tape : w'.tape = w.tape
  output : w'.output = w.output
  size : w.heap.size ≤ w'.heap.size
  block : ∀ k, k < w.heap.size → k ∉ bs → w'.heap[k]? = w.heap[k]?
theorem Kept.refl (bs : List Nat) (w : World) : Kept bs w w := ⟨rfl, rfl, rfl, Nat.le_refl _, fun _ _ _ => rfl⟩
theorem Kept.below {bs : List Nat} {w V V' : World} (h : Kept bs w V) (hb : Below V.heap.size V V') : Kept bs w V' :=
  ⟨hb.os.trans h.os, hb.tape.trans h.tape, hb.output.trans h.output, Nat.le_trans h.size hb.size, fun k hk hn => (hb.block k (Nat.lt_of_lt_of_le hk h.size)).trans (h.block k hk hn)⟩
theorem Kept.alloc {bs : List Nat} {w V : World} (h : Kept bs w V) (o : Obj) : Kept bs w (V.alloc o) := h.below (below_alloc1 _ _)
theorem Kept.grown {bs : List Nat} {w V V' : World} {p : Nat} (h : Kept bs w V) (g : V.grownBy V' (some p)) (hp : p ∈ bs ∨ w.heap.size ≤ p) : Kept bs w V' :=
  ⟨g.os.trans h.os, g.tape.trans h.tape, g.output.trans h.output, Nat.le_trans h.size g.size, fun k hk hn => (g.block k (Nat.lt_of_lt_of_le hk h.size) (by
    rintro e
    cases e
    rcases hp with hp | hp
    · exact hn hp
    · omega)).trans (h.block k hk hn)⟩
theorem Kept.drew {bs : List Nat} {w V : World} (h : Kept bs w V) : Kept bs w V.drew := ⟨h.os, h.tape, h.output, h.size, h.block⟩
theorem Kept.clk {bs : List Nat} {w V : World} {base p : Nat} {r t : Int} (h : Kept bs w V) (hc : ClkAt w base p r t) (hp : p ∉ bs) : ClkAt V base p r t := ⟨hc.lo, by rw [h.block p hc.lt hp]; exact hc.own, hc.bd⟩
theorem Kept.rclk {bs : List Nat} {w V : World} {base p : Nat} {r t : Int} (h : Kept bs w V) (hc : RclkAt w base p r t) (hp : p ∉ bs) : RclkAt V base p r t := ⟨hc.lo, by rw [h.block p hc.lt hp]; exact hc.own, hc.bd⟩
theorem Kept.toBelow {bs : List Nat} {w V : World} {B : Nat} (h : Kept bs w V) (hs : ∀ b ∈ bs, B ≤ b) (hB : B ≤ w.heap.size) : Below B w V :=
  ⟨h.os, h.tape, h.output, h.size, fun k hk => h.block k (by omega) (fun hm => by have := hs k hm; omega)⟩
theorem Kept.trans {bs cs : List Nat} {w V V' : World} (h : Kept bs w V) (h2 : Kept cs V V') (hs : ∀ b ∈ cs, b ∈ bs ∨ w.heap.size ≤ b) : Kept bs w V' :=
  ⟨h2.os.trans h.os, h2.tape.trans h.tape, h2.output.trans h.output, Nat.le_trans h.size h2.size, fun k hk hn => (h2.block k (Nat.lt_of_lt_of_le hk h.size) (fun hm => by
    rcases hs k hm with hp | hp
    · exact hn hp
    · omega)).trans (h.block k hk hn)⟩

theorem ClkAt.drew {w : World} {base p : Nat} {r t : Int} (h : ClkAt w base p r t) : ClkAt w.drew base p r t := ⟨h.lo, h.own, h.bd⟩
theorem RclkAt.drew {w : World} {base p : Nat} {r t : Int} (h : RclkAt w base p r t) : RclkAt w.drew base p r t := ⟨h.lo, h.own, h.bd⟩
set_option maxRecDepth 100000 in
set_option maxHeartbeats 1000000 in
theorem step_any (base p p' : Nat) (r t k n t' r' : Int) (w : World) (hc : ClkAt w base p r t) (hr : RclkAt w base p' r t) (hne : p ≠ p') (hn : n ≤ 9223372036854775807) :
    Calls Tryd.prog 19 #[.pointer (some ⟨p, 0, none⟩), .pointer (some ⟨p', 0, none⟩), .agg #[.int .i64 k, .int .i64 n, .int .i64 t', .int .i64 r']] w fun e w' =>
      e = .returned (.bool true) ∧ ∃ t2, ClkAt w' base p r t2 ∧ RclkAt w' base p' r t2 ∧ Kept [p, p'] w w' := by
  have hne' : p' ≠ p := fun e => hne e.symm
  have hl1 := hc.lt
  have hl2 := hr.lt
  have K0 := hid ((Kept.refl [p, p'] w).alloc (Obj.cells #[.int .i64 k, .int .i64 n, .int .i64 t', .int .i64 r'] 35))
  have C0 := hid (hc.below (below_alloc1 w (Obj.cells #[.int .i64 k, .int .i64 n, .int .i64 t', .int .i64 r'] 35)))
  have R0 := hid (hr.below (below_alloc1 w (Obj.cells #[.int .i64 k, .int .i64 n, .int .i64 t', .int .i64 r'] 35)))
  clear hc hr
  have a0 := new_at w (Obj.cells #[.int .i64 k, .int .i64 n, .int .i64 t', .int .i64 r'] 35)
  have hsz : w.heap.size < (w.alloc (Obj.cells #[.int .i64 k, .int .i64 n, .int .i64 t', .int .i64 r'] 35)).heap.size := (Array.getElem?_eq_some_iff.1 a0).1
  by_cases hk : k = 0
  · subst hk
    go_enter Tryd.func19, Tryd.ntmps19
    go_wp2_with fail
    refine (Next2_any base p r t n _ C0.out hn).mono ?_
    rintro e w1 ⟨rfl, hc, hg⟩
    rcases hcn : cnext r t n with ⟨⟨s1, s2⟩, er, t2⟩
    rw [hcn] at hc
    have K1 := hid (K0.out.grown hg (.inl (by simp)))
    have C1 := hid hc
    have R1 := hid (R0.out.grown hg (by simp; exact hne))
    have a1 : w1.heap[w.heap.size]? = some (Obj.cells #[.int .i64 0, .int .i64 n, .int .i64 t', .int .i64 r'] 35) := by
      rw [hg.block _ hsz (by simp; omega)]; exact a0
    have hsz1 := Nat.lt_of_lt_of_le hsz hg.size
    clear hc hg
    have c1 := cell_of a1 1 (v := .int .i64 n) rfl
    dsimp only
    go_wp2_with fail
    have b1 := new_at w1 (Obj.cells #[Value.int IntKind.i64 s1, Value.int IntKind.i64 s2] 33)
    have R2 := hid (R1.out.below (below_alloc1 w1 (Obj.cells #[Value.int IntKind.i64 s1, Value.int IntKind.i64 s2] 33)))
    have C2 := hid (C1.out.below (below_alloc1 w1 (Obj.cells #[Value.int IntKind.i64 s1, Value.int IntKind.i64 s2] 33)))
    have K2 := hid (K1.out.alloc (Obj.cells #[Value.int IntKind.i64 s1, Value.int IntKind.i64 s2] 33))
    have hl3 : p < w1.heap.size := C1.out.lt
    have hl4 : p' < w1.heap.size := R1.out.lt
    have hsz2 : w1.heap.size < (w1.alloc (Obj.cells #[Value.int IntKind.i64 s1, Value.int IntKind.i64 s2] 33)).heap.size := (Array.getElem?_eq_some_iff.1 b1).1
    have d1 : (w1.alloc (Obj.cells #[Value.int IntKind.i64 s1, Value.int IntKind.i64 s2] 33)).cell? ⟨w.heap.size, 1, none⟩ = some (.int .i64 n) := by rw [(below_alloc1 w1 (Obj.cells #[Value.int IntKind.i64 s1, Value.int IntKind.i64 s2] 33)).cell (World.block_lt_of_cell? _ _ c1)]; exact c1
    refine (rNext2_any base p' r t n _ R2.out hn).mono ?_
    rintro e w2 ⟨rfl, hc, hg⟩
    rw [hcn] at hc ⊢
    have K3 := hid (K2.out.grown hg (.inl (by simp)))
    have R3 := hid hc
    have C3 := hid (C2.out.grown hg (by simp; exact hne'))
    have b2 : w2.heap[w1.heap.size]? = some (Obj.cells #[Value.int IntKind.i64 s1, Value.int IntKind.i64 s2] 33) := by
      rw [hg.block _ hsz2 (by simp; omega)]; exact b1
    have hsz3 := Nat.lt_of_lt_of_le hsz2 hg.size
    clear hc hg
    dsimp only
    go_wp2_with fail
    have m0 : (w2.alloc (Obj.cells #[Value.int IntKind.i64 s1, Value.int IntKind.i64 s2] 33)).cell? ⟨w1.heap.size, 0, none⟩ = some (.int .i64 s1) := by rw [(below_alloc1 w2 (Obj.cells #[Value.int IntKind.i64 s1, Value.int IntKind.i64 s2] 33)).cell (p := ⟨w1.heap.size, 0, none⟩) hsz3]; exact cell_of b2 0 rfl
    have m1 : (w2.alloc (Obj.cells #[Value.int IntKind.i64 s1, Value.int IntKind.i64 s2] 33)).cell? ⟨w1.heap.size, 1, none⟩ = some (.int .i64 s2) := by rw [(below_alloc1 w2 (Obj.cells #[Value.int IntKind.i64 s1, Value.int IntKind.i64 s2] 33)).cell (p := ⟨w1.heap.size, 1, none⟩) hsz3]; exact cell_of b2 1 rfl
    have m2 : (w2.alloc (Obj.cells #[Value.int IntKind.i64 s1, Value.int IntKind.i64 s2] 33)).cell? ⟨w2.heap.size, 0, none⟩ = some (.int .i64 s1) := cell_of (new_at _ _) 0 rfl
    have m3 : (w2.alloc (Obj.cells #[Value.int IntKind.i64 s1, Value.int IntKind.i64 s2] 33)).cell? ⟨w2.heap.size, 1, none⟩ = some (.int .i64 s2) := cell_of (new_at _ _) 1 rfl
    have C4 := hid (C3.out.below (below_alloc1 w2 (Obj.cells #[Value.int IntKind.i64 s1, Value.int IntKind.i64 s2] 33)))
    have R4 := hid (R3.out.below (below_alloc1 w2 (Obj.cells #[Value.int IntKind.i64 s1, Value.int IntKind.i64 s2] 33)))
    have K4 := hid (K3.out.alloc (Obj.cells #[Value.int IntKind.i64 s1, Value.int IntKind.i64 s2] 33))
    have m4 := cell_of R4.out.own 1 (v := .int .i64 t2) rfl
    generalize w2.alloc (Obj.cells #[Value.int IntKind.i64 s1, Value.int IntKind.i64 s2] 33) = V at *
    refine wp_region_held_drew (S := fun w' => w'.cell? ⟨w1.heap.size, 0, none⟩ = some (.int .i64 s1) ∧ w'.cell? ⟨w1.heap.size, 1, none⟩ = some (.int .i64 s2) ∧ w'.cell? ⟨w2.heap.size, 0, none⟩ = some (.int .i64 s1) ∧ w'.cell? ⟨w2.heap.size, 1, none⟩ = some (.int .i64 s2) ∧ w'.cell? ⟨p', 1, none⟩ = some (.int .i64 t2)) (by kernel_rfl) (by exact ⟨m0, m1, m2, m3, m4⟩) (fun hHeld => ?_)
    refine takeL 0 (v := ?_) rfl (by kernel_rfl) (by kernel_rfl) (by kernel_rfl) (fun _ _ _ h => h) (by rfl) ?_ (by assumption) ?_
    case' refine_2 => (intro w hSw; (try dsimp only at hSw); go_simp; try with_reducible rfl)
    try simp only [Act.put, List.setIfInBounds_toArray, List.set_cons_zero, List.set_cons_succ]
    refine takeL 1 (v := ?_) rfl (by kernel_rfl) (by kernel_rfl) (by kernel_rfl) (fun _ _ _ h => h) (by rfl) ?_ (by assumption) ?_
    case' refine_2 => (intro w hSw; (try dsimp only at hSw); go_simp; try with_reducible rfl)
    try simp only [Act.put, List.setIfInBounds_toArray, List.set_cons_zero, List.set_cons_succ]
    refine takeL 2 (v := ?_) rfl (by kernel_rfl) (by kernel_rfl) (by kernel_rfl) (fun _ _ _ h => h) (by rfl) ?_ (by assumption) ?_
    case' refine_2 => (intro w hSw; (try dsimp only at hSw); go_simp; try with_reducible rfl)
    try simp only [Act.put, List.setIfInBounds_toArray, List.set_cons_zero, List.set_cons_succ]
    refine takeL 3 (v := ?_) rfl (by kernel_rfl) (by kernel_rfl) (by kernel_rfl) (fun _ _ _ h => h) (by rfl) ?_ (by assumption) ?_
    case' refine_2 => (intro w hSw; (try dsimp only at hSw); go_simp; try with_reducible rfl)
    try simp only [Act.put, List.setIfInBounds_toArray, List.set_cons_zero, List.set_cons_succ]
    refine takeL 4 (v := ?_) rfl (by kernel_rfl) (by kernel_rfl) (by kernel_rfl) (fun _ _ _ h => h) (by rfl) ?_ (by assumption) ?_
    case' refine_2 => (intro w hSw; (try dsimp only at hSw); go_simp; try with_reducible rfl)
    try simp only [Act.put, List.setIfInBounds_toArray, List.set_cons_zero, List.set_cons_succ]
    refine takeL 6 (v := ?_) rfl (by kernel_rfl) (by kernel_rfl) (by kernel_rfl) (fun _ _ _ h => h) (by rfl) ?_ (by assumption) ?_
    case' refine_2 => (intro w hSw; (try dsimp only at hSw); go_simp; try with_reducible rfl)
    try simp only [Act.put, List.setIfInBounds_toArray, List.set_cons_zero, List.set_cons_succ]
    refine soloL 5 rfl (by kernel_rfl) (fun K hK => ?_)
    go_simp
    go_at_call 17
    refine (num2_any _ _).mono ?_
    rintro e w3 ⟨rfl, rfl⟩
    go_wp2_with fail
    refine hK.out _ _ hHeld (fun hHeld => ?_)
    clear hK K
    refine takeL 7 (v := ?_) rfl (by kernel_rfl) (by kernel_rfl) (by kernel_rfl) (fun _ _ _ h => h) (by rfl) ?_ (by assumption) ?_
    case' refine_2 => (intro w hSw; (try dsimp only at hSw); go_simp; try with_reducible rfl)
    try simp only [Act.put, List.setIfInBounds_toArray, List.set_cons_zero, List.set_cons_succ]
    refine takeL 8 (v := ?_) rfl (by kernel_rfl) (by kernel_rfl) (by kernel_rfl) (fun _ _ _ h => h) (by rfl) ?_ (by assumption) ?_
    case' refine_2 => (intro w hSw; (try dsimp only at hSw); go_simp; try with_reducible rfl)
    try simp only [Act.put, List.setIfInBounds_toArray, List.set_cons_zero, List.set_cons_succ]
    refine takeL 9 (v := ?_) rfl (by kernel_rfl) (by kernel_rfl) (by kernel_rfl) (fun _ _ _ h => h) (by rfl) ?_ (by assumption) ?_
    case' refine_2 => (intro w hSw; (try dsimp only at hSw); go_simp; try with_reducible rfl)
    try simp only [Act.put, List.setIfInBounds_toArray, List.set_cons_zero, List.set_cons_succ]
    refine takeL 10 (v := ?_) rfl (by kernel_rfl) (by kernel_rfl) (by kernel_rfl) (fun _ _ _ h => h) (by rfl) ?_ (by assumption) ?_
    case' refine_2 => (intro w hSw; (try dsimp only at hSw); go_simp; try with_reducible rfl)
    try simp only [Act.put, List.setIfInBounds_toArray, List.set_cons_zero, List.set_cons_succ]
    refine takeL 12 (v := ?_) rfl (by kernel_rfl) (by kernel_rfl) (by kernel_rfl) (fun _ _ _ h => h) (by rfl) ?_ (by assumption) ?_
    case' refine_2 => (intro w hSw; (try dsimp only at hSw); go_simp; try with_reducible rfl)
    try simp only [Act.put, List.setIfInBounds_toArray, List.set_cons_zero, List.set_cons_succ]
    refine takeL 13 (v := ?_) rfl (by kernel_rfl) (by kernel_rfl) (by kernel_rfl) (fun _ _ _ h => h) (by rfl) ?_ (by assumption) ?_
    case' refine_2 => (intro w hSw; (try dsimp only at hSw); go_simp; try with_reducible rfl)
    try simp only [Act.put, List.setIfInBounds_toArray, List.set_cons_zero, List.set_cons_succ]
    refine takeL 14 (v := ?_) rfl (by kernel_rfl) (by kernel_rfl) (by kernel_rfl) (fun _ _ _ h => h) (by rfl) ?_ (by assumption) ?_
    case' refine_2 => (intro w hSw; (try dsimp only at hSw); go_simp; try with_reducible rfl)
    try simp only [Act.put, List.setIfInBounds_toArray, List.set_cons_zero, List.set_cons_succ]
    refine takeL 15 (v := ?_) rfl (by kernel_rfl) (by kernel_rfl) (by kernel_rfl) (fun _ _ _ h => h) (by rfl) ?_ (by assumption) ?_
    case' refine_2 => (intro w hSw; (try dsimp only at hSw); go_simp; try with_reducible rfl)
    try simp only [Act.put, List.setIfInBounds_toArray, List.set_cons_zero, List.set_cons_succ]
    refine soloL 11 rfl (by kernel_rfl) (fun K hK => ?_)
    go_simp
    go_at_call 22
    refine (Time2_any base p r t2 _ C4.out.drew).mono ?_
    rintro e w3 ⟨rfl, rfl⟩
    go_wp2_with fail
    refine hK.out _ _ hHeld (fun hHeld => ?_)
    clear hK K
    refine takeL 16 (v := ?_) rfl (by kernel_rfl) (by kernel_rfl) (by kernel_rfl) (fun _ _ _ h => h) (by rfl) ?_ (by assumption) ?_
    case' refine_2 => (intro w hSw; (try dsimp only at hSw); go_simp; try with_reducible rfl)
    try simp only [Act.put, List.setIfInBounds_toArray, List.set_cons_zero, List.set_cons_succ]
    refine takeL 17 (v := ?_) rfl (by kernel_rfl) (by kernel_rfl) (by kernel_rfl) (fun _ _ _ h => h) (by rfl) ?_ (by assumption) ?_
    case' refine_2 => (intro w hSw; (try dsimp only at hSw); go_simp; try with_reducible rfl)
    try simp only [Act.put, List.setIfInBounds_toArray, List.set_cons_zero, List.set_cons_succ]
    refine takeL 18 (v := ?_) rfl (by kernel_rfl) (by kernel_rfl) (by kernel_rfl) (fun _ _ _ h => h) (by rfl) ?_ (by assumption) ?_
    case' refine_2 => (intro w hSw; (try dsimp only at hSw); go_simp; try with_reducible rfl)
    try simp only [Act.put, List.setIfInBounds_toArray, List.set_cons_zero, List.set_cons_succ]
    refine wpAnyH_done (by kernel_rfl) ?_ _
    go_wp2_with fail
    go_ret
    exact ⟨rfl, t2, C4.out.drew, R4.out.drew, K4.out.drew⟩
  · have hk' : (k == 0) = false := by simp; omega
    have c2 := cell_of a0 2 (v := .int .i64 t') rfl
    have c3 := cell_of a0 3 (v := .int .i64 r') rfl
    go_enter Tryd.func19, Tryd.ntmps19
    go_wp2_with fail
    refine wp_region_held_drew (S := fun w' => w'.heap[w.heap.size]? = some (Obj.cells #[.int .i64 k, .int .i64 n, .int .i64 t', .int .i64 r'] 35) ∧ w'.cell? ⟨w.heap.size, 2, none⟩ = some (.int .i64 t') ∧ w'.cell? ⟨w.heap.size, 3, none⟩ = some (.int .i64 r')) (by kernel_rfl) (by exact ⟨a0, c2, c3⟩) (fun hHeld => ?_)
    refine takeL 0 (v := ?_) rfl (by kernel_rfl) (by kernel_rfl) (by kernel_rfl) (fun _ _ _ h => h) (by rfl) ?_ (by assumption) ?_
    case' refine_2 => (intro w hSw; (try dsimp only at hSw); go_simp; try with_reducible rfl)
    try simp only [Act.put, List.setIfInBounds_toArray, List.set_cons_zero, List.set_cons_succ]
    refine takeL 1 (v := ?_) rfl (by kernel_rfl) (by kernel_rfl) (by kernel_rfl) (fun _ _ _ h => h) (by rfl) ?_ (by assumption) ?_
    case' refine_2 => (intro w hSw; (try dsimp only at hSw); go_simp; try with_reducible rfl)
    try simp only [Act.put, List.setIfInBounds_toArray, List.set_cons_zero, List.set_cons_succ]
    refine takeL 2 (v := ?_) rfl (by kernel_rfl) (by kernel_rfl) (by kernel_rfl) (fun _ _ _ h => h) (by rfl) ?_ (by assumption) ?_
    case' refine_2 => (intro w hSw; (try dsimp only at hSw); go_simp; try with_reducible rfl)
    try simp only [Act.put, List.setIfInBounds_toArray, List.set_cons_zero, List.set_cons_succ]
    refine takeL 5 (v := ?_) rfl (by kernel_rfl) (by kernel_rfl) (by kernel_rfl) (fun _ _ _ h => h) (by rfl) ?_ (by assumption) ?_
    case' refine_2 => (intro w hSw; (try dsimp only at hSw); go_simp; try with_reducible rfl)
    try simp only [Act.put, List.setIfInBounds_toArray, List.set_cons_zero, List.set_cons_succ]
    refine takeL 6 (v := ?_) rfl (by kernel_rfl) (by kernel_rfl) (by kernel_rfl) (fun _ _ _ h => h) (by rfl) ?_ (by assumption) ?_
    case' refine_2 => (intro w hSw; (try dsimp only at hSw); go_simp; try with_reducible rfl)
    try simp only [Act.put, List.setIfInBounds_toArray, List.set_cons_zero, List.set_cons_succ]
    refine takeL 7 (v := ?_) rfl (by kernel_rfl) (by kernel_rfl) (by kernel_rfl) (fun _ _ _ h => h) (by rfl) ?_ (by assumption) ?_
    case' refine_2 => (intro w hSw; (try dsimp only at hSw); go_simp; try with_reducible rfl)
    try simp only [Act.put, List.setIfInBounds_toArray, List.set_cons_zero, List.set_cons_succ]
    refine soloL 3 rfl (by kernel_rfl) (fun K hK => ?_)
    go_simp
    go_at_call 21
    refine (See2_any base p r t t' r' _ C0.out.drew).mono ?_
    rintro e w1 ⟨rfl, hc, hg⟩
    rcases hcs : csee t t' r' with ⟨er, t2⟩
    rw [hcs] at hc
    have K1 := hid (K0.out.drew.grown hg (.inl (by simp)))
    have C1 := hid hc
    have R1 := hid (R0.out.drew.grown hg (by simp; exact hne))
    have a1 : w1.heap[w.heap.size]? = some (Obj.cells #[.int .i64 k, .int .i64 n, .int .i64 t', .int .i64 r'] 35) := by
      rw [hg.block _ hsz (by simp; omega)]; exact a0
    have hsz1 := Nat.lt_of_lt_of_le hsz hg.size
    clear hc hg c2 c3
    dsimp only
    go_wp2_with fail
    refine hK.out _ _ ⟨a1, cell_of a1 2 rfl, cell_of a1 3 rfl⟩ (fun hHeld => ?_)
    clear hK K
    refine soloL 4 rfl (by kernel_rfl) (fun K hK => ?_)
    go_simp
    go_at_call 17
    refine (num2_any _ _).mono ?_
    rintro e w3 ⟨rfl, rfl⟩
    go_wp2_with fail
    refine hK.out _ _ hHeld (fun hHeld => ?_)
    clear hK K
    refine soloL 8 rfl (by kernel_rfl) (fun K hK => ?_)
    go_simp
    go_at_call 68
    refine (rSee2_any base p' r t t' r' _ R1.out).mono ?_
    rintro e w2 ⟨rfl, hc, hg⟩
    rw [hcs] at hc ⊢
    have K2 := hid (K1.out.grown hg (.inl (by simp)))
    have R2 := hid hc
    have C2 := hid (C1.out.grown hg (by simp; exact hne'))
    have a2 : w2.heap[w.heap.size]? = some (Obj.cells #[.int .i64 k, .int .i64 n, .int .i64 t', .int .i64 r'] 35) := by
      rw [hg.block _ hsz1 (by simp; omega)]; exact a1
    have m4 := cell_of R2.out.own 1 (v := .int .i64 t2) rfl
    clear hc hg
    dsimp only
    go_wp2_with fail
    refine hK.out _ _ ⟨a2, cell_of a2 2 rfl, cell_of a2 3 rfl⟩ (fun hHeld => ?_)
    clear hK K
    refine takeL 9 (v := ?_) rfl (by kernel_rfl) (by kernel_rfl) (by kernel_rfl) (fun _ _ _ h => h) (by rfl) ?_ (by assumption) ?_
    case' refine_2 => (intro w hSw; (try dsimp only at hSw); go_simp; try with_reducible rfl)
    try simp only [Act.put, List.setIfInBounds_toArray, List.set_cons_zero, List.set_cons_succ]
    refine takeL 10 (v := ?_) rfl (by kernel_rfl) (by kernel_rfl) (by kernel_rfl) (fun _ _ _ h => h) (by rfl) ?_ (by assumption) ?_
    case' refine_2 => (intro w hSw; (try dsimp only at hSw); go_simp; try with_reducible rfl)
    try simp only [Act.put, List.setIfInBounds_toArray, List.set_cons_zero, List.set_cons_succ]
    refine takeL 11 (v := ?_) rfl (by kernel_rfl) (by kernel_rfl) (by kernel_rfl) (fun _ _ _ h => h) (by rfl) ?_ (by assumption) ?_
    case' refine_2 => (intro w hSw; (try dsimp only at hSw); go_simp; try with_reducible rfl)
    try simp only [Act.put, List.setIfInBounds_toArray, List.set_cons_zero, List.set_cons_succ]
    refine takeL 13 (v := ?_) rfl (by kernel_rfl) (by kernel_rfl) (by kernel_rfl) (fun _ _ _ h => h) (by rfl) ?_ (by assumption) ?_
    case' refine_2 => (intro w hSw; (try dsimp only at hSw); go_simp; try with_reducible rfl)
    try simp only [Act.put, List.setIfInBounds_toArray, List.set_cons_zero, List.set_cons_succ]
    refine takeL 14 (v := ?_) rfl (by kernel_rfl) (by kernel_rfl) (by kernel_rfl) (fun _ _ _ h => h) (by rfl) ?_ (by assumption) ?_
    case' refine_2 => (intro w hSw; (try dsimp only at hSw); go_simp; try with_reducible rfl)
    try simp only [Act.put, List.setIfInBounds_toArray, List.set_cons_zero, List.set_cons_succ]
    refine takeL 15 (v := ?_) rfl (by kernel_rfl) (by kernel_rfl) (by kernel_rfl) (fun _ _ _ h => h) (by rfl) ?_ (by assumption) ?_
    case' refine_2 => (intro w hSw; (try dsimp only at hSw); go_simp; try with_reducible rfl)
    try simp only [Act.put, List.setIfInBounds_toArray, List.set_cons_zero, List.set_cons_succ]
    refine duoL 12 16 rfl rfl (by kernel_rfl) (fun K hK => ?_) (fun K hK => ?_)
    · go_simp
      go_at_call 22
      refine (Time2_any base p r t2 _ C2.out).mono ?_
      rintro e w3 ⟨rfl, rfl⟩
      go_wp2_with fail
      refine hK.out _ _ hHeld (fun hHeld => ?_)
      clear hK K
      refine soloL 16 rfl (by kernel_rfl) (fun K hK => ?_)
      go_simp
      refine hK.out _ _ hHeld (fun hHeld => ?_)
      clear hK K
      refine takeL 17 (v := ?_) rfl (by kernel_rfl) (by kernel_rfl) (by kernel_rfl) (fun _ _ _ h => h) (by rfl) ?_ (by assumption) ?_
      case' refine_2 => (intro w hSw; (try dsimp only at hSw); go_simp; try with_reducible rfl)
      try simp only [Act.put, List.setIfInBounds_toArray, List.set_cons_zero, List.set_cons_succ]
      refine takeL 18 (v := ?_) rfl (by kernel_rfl) (by kernel_rfl) (by kernel_rfl) (fun _ _ _ h => h) (by rfl) ?_ (by assumption) ?_
      case' refine_2 => (intro w hSw; (try dsimp only at hSw); go_simp; try with_reducible rfl)
      try simp only [Act.put, List.setIfInBounds_toArray, List.set_cons_zero, List.set_cons_succ]
      refine takeL 19 (v := ?_) rfl (by kernel_rfl) (by kernel_rfl) (by kernel_rfl) (fun _ _ _ h => h) (by rfl) ?_ (by assumption) ?_
      case' refine_2 => (intro w hSw; (try dsimp only at hSw); go_simp; try with_reducible rfl)
      try simp only [Act.put, List.setIfInBounds_toArray, List.set_cons_zero, List.set_cons_succ]
      refine wpAnyH_done (by kernel_rfl) ?_ _
      go_wp2_with fail
      go_ret
      exact ⟨rfl, t2, C2.out, R2.out, K2.out⟩
    · go_simp
      refine hK.out _ _ hHeld (fun hHeld => ?_)
      clear hK K
      refine soloL 12 rfl (by kernel_rfl) (fun K hK => ?_)
      go_simp
      go_at_call 22
      refine (Time2_any base p r t2 _ C2.out).mono ?_
      rintro e w3 ⟨rfl, rfl⟩
      go_wp2_with fail
      refine hK.out _ _ hHeld (fun hHeld => ?_)
      clear hK K
      refine takeL 17 (v := ?_) rfl (by kernel_rfl) (by kernel_rfl) (by kernel_rfl) (fun _ _ _ h => h) (by rfl) ?_ (by assumption) ?_
      case' refine_2 => (intro w hSw; (try dsimp only at hSw); go_simp; try with_reducible rfl)
      try simp only [Act.put, List.setIfInBounds_toArray, List.set_cons_zero, List.set_cons_succ]
      refine takeL 18 (v := ?_) rfl (by kernel_rfl) (by kernel_rfl) (by kernel_rfl) (fun _ _ _ h => h) (by rfl) ?_ (by assumption) ?_
      case' refine_2 => (intro w hSw; (try dsimp only at hSw); go_simp; try with_reducible rfl)
      try simp only [Act.put, List.setIfInBounds_toArray, List.set_cons_zero, List.set_cons_succ]
      refine takeL 19 (v := ?_) rfl (by kernel_rfl) (by kernel_rfl) (by kernel_rfl) (fun _ _ _ h => h) (by rfl) ?_ (by assumption) ?_
      case' refine_2 => (intro w hSw; (try dsimp only at hSw); go_simp; try with_reducible rfl)
      try simp only [Act.put, List.setIfInBounds_toArray, List.set_cons_zero, List.set_cons_succ]
      refine wpAnyH_done (by kernel_rfl) ?_ _
      go_wp2_with fail
      go_ret
      exact ⟨rfl, t2, C2.out, R2.out, K2.out⟩
end Go.Proofs.YtdbghnfmhgjkaaaDoor
