/- Layer 2: a clock's calls. -/
import Derived.Test.YtdbghnfmhgjkaaaDoorStA
namespace Go.Proofs.YtdbghnfmhgjkaaaDoor
open Go.RowKit Go.Dio
set_option linter.unusedVariables false
set_option linter.unusedSimpArgs false

/-- Next: the stamp, the error, the time behind it. -/
def cnext (r t n : Int) : (Int × Int) × Int × Int := if n < 1 then ((0, 0), 1, t) else if 1099511627776 - t < n then ((0, 0), 30, t) else ((t + 1, r), 0, t + n)
/-- See: the error, the time behind it. -/
def csee (t t' r' : Int) : Int × Int := if sright t' r' then (0, max t t') else (1, t)

theorem ClkAt.setT {w : World} {base p : Nat} {r t : Int} (h : ClkAt w base p r t) (t' : Int) (hb : 0 ≤ t' ∧ t' ≤ 1099511627776) : ClkAt (w.setCell ⟨p, 1, none⟩ (.int .i64 t')) base p r t' :=
  ⟨h.lo, by simp [World.setCell, Array.getElem?_modify, h.own], hb⟩

set_option maxRecDepth 100000 in
set_option maxHeartbeats 1000000 in
theorem Next2_any (base p : Nat) (r t n : Int) (w : World) (h : ClkAt w base p r t) (hn : n ≤ 9223372036854775807) :
    Calls Tryd.prog 20 #[.pointer (some ⟨p, 0, none⟩), .int .i64 n] w
      (ClkOut w base p (.tuple #[stv (cnext r t n).1.1 (cnext r t n).1.2, .int .i64 (cnext r t n).2.1]) r (cnext r t n).2.2) := by
  have H := hid h
  have hbd := h.bd
  have c0 : w.cell? ⟨p, 0, none⟩ = some (.int .i64 r) := by simp [World.cell?, h.own]
  have c1 : w.cell? ⟨p, 1, none⟩ = some (.int .i64 t) := by simp [World.cell?, h.own]
  have f1 : w.frozen? ⟨p, 1, none⟩ = false := by simp [World.frozen?, h.own]
  have hlt := h.lt
  have hne := World.new_ne w _ c1
  clear h
  by_cases hn1 : n < 1
  · have hc := hid (show cnext r t n = ((0, 0), 1, t) by rw [cnext, if_pos hn1])
    go_enter Tryd.func20, Tryd.ntmps20
    go_wp2_with fail
    refine (cnone_any base p r t _ (H.out.below (below_alloc1 _ _))).mono ?_
    rintro e w1 ⟨rfl, rfl⟩
    go_wp2_with fail
    (try simp only [Exit.inBlock, Exit.then]); refine bodyPost_ret (v := .tuple #[stv 0 0, .int .i64 1]) (by simp [results, show Tryd.f20.results = #[.cell 4 33, .tmp 5] from rfl, go_sem]) rfl ?_
    rw [hc.out]
    refine ⟨rfl, H.out.grown (row := none) ?g1 (by simp), ?g2⟩
    case g1 => exact grown_alloc (World.grownBy.refl _ _) _
    case g2 => exact grown_alloc (World.grownBy.refl _ _) _
  · by_cases hn2 : 1099511627776 - t < n
    · have hc := hid (show cnext r t n = ((0, 0), 30, t) by rw [cnext, if_neg hn1, if_pos hn2])
      go_enter Tryd.func20, Tryd.ntmps20
      go_wp2_with fail
      refine (cnone_any base p r t _ (H.out.below (below_alloc1 _ _))).mono ?_
      rintro e w1 ⟨rfl, rfl⟩
      go_wp2_with fail
      (try simp only [Exit.inBlock, Exit.then]); refine bodyPost_ret (v := .tuple #[stv 0 0, .int .i64 30]) (by simp [results, show Tryd.f20.results = #[.cell 4 33, .tmp 5] from rfl, go_sem]) rfl ?_
      rw [hc.out]
      refine ⟨rfl, H.out.grown (row := none) ?g3 (by simp), ?g4⟩
      case g3 => exact grown_alloc (World.grownBy.refl _ _) _
      case g4 => exact grown_alloc (World.grownBy.refl _ _) _
    · have hc := hid (show cnext r t n = ((t + 1, r), 0, t + n) by rw [cnext, if_neg hn1, if_neg hn2])
      go_enter Tryd.func20, Tryd.ntmps20
      go_wp2_with fail
      refine (cnone_any base p r t _ (H.out.below (below_alloc1 _ _))).mono ?_
      rintro e w1 ⟨rfl, rfl⟩
      go_wp2_with fail
      have hw : IntKind.i64.wrap (t + n) = t + n := by simp only [IntKind.wrap_i64]; omega
      refine wp_region_held_drew (S := fun w' => w'.cell? ⟨p, 0, none⟩ = some (.int .i64 r) ∧ w'.cell? ⟨p, 1, none⟩ = some (.int .i64 t)) (by kernel_rfl) (by go_keep) (fun hHeld => ?_)
      refine takeL 0 (v := ?_) rfl (by kernel_rfl) (by kernel_rfl) (by kernel_rfl) (fun _ _ _ h => h) (by rfl) ?_ (by assumption) ?_
      case' refine_2 => (intro w hSw; (try dsimp only at hSw); go_simp; try with_reducible rfl)
      try simp only [Act.put, List.setIfInBounds_toArray, List.set_cons_zero, List.set_cons_succ]
      refine takeL 1 (v := ?_) rfl (by kernel_rfl) (by kernel_rfl) (by kernel_rfl) (fun _ _ _ h => h) (by rfl) ?_ (by assumption) ?_
      case' refine_2 => (intro w hSw; (try dsimp only at hSw); go_simp; try with_reducible rfl)
      try simp only [Act.put, List.setIfInBounds_toArray, List.set_cons_zero, List.set_cons_succ]
      refine takeL 2 (v := ?_) rfl (by kernel_rfl) (by kernel_rfl) (by kernel_rfl) (fun _ _ _ h => h) (by rfl) ?_ (by assumption) ?_
      case' refine_2 => (intro w hSw; (try dsimp only at hSw); go_simp; try with_reducible rfl)
      try simp only [Act.put, List.setIfInBounds_toArray, List.set_cons_zero, List.set_cons_succ]
      refine takeL 3 (v := ?_) rfl (by kernel_rfl) (by kernel_rfl) (by kernel_rfl) (fun _ _ _ h => h) (by rfl) ?_ (by assumption) ?_
      case' refine_2 => (intro w hSw; (try dsimp only at hSw); go_simp; try with_reducible rfl)
      try simp only [Act.put, List.setIfInBounds_toArray, List.set_cons_zero, List.set_cons_succ]
      refine takeL 4 (v := ?_) rfl (by kernel_rfl) (by kernel_rfl) (by kernel_rfl) (fun _ _ _ h => h) (by rfl) ?_ (by assumption) ?_
      case' refine_2 => (intro w hSw; (try dsimp only at hSw); go_simp; try with_reducible rfl)
      try simp only [Act.put, List.setIfInBounds_toArray, List.set_cons_zero, List.set_cons_succ]
      refine takeL 5 (v := ?_) rfl (by kernel_rfl) (by kernel_rfl) (by kernel_rfl) (fun _ _ _ h => h) (by rfl) ?_ (by assumption) ?_
      case' refine_2 => (intro w hSw; (try dsimp only at hSw); go_simp; try with_reducible rfl)
      try simp only [Act.put, List.setIfInBounds_toArray, List.set_cons_zero, List.set_cons_succ]
      refine takeL 6 (v := ?_) rfl (by kernel_rfl) (by kernel_rfl) (by kernel_rfl) (fun _ _ _ h => h) (by rfl) ?_ (by assumption) ?_
      case' refine_2 => (intro w hSw; (try dsimp only at hSw); go_simp; try with_reducible rfl)
      try simp only [Act.put, List.setIfInBounds_toArray, List.set_cons_zero, List.set_cons_succ]
      refine takeL 7 (v := ?_) rfl (by kernel_rfl) (by kernel_rfl) (by kernel_rfl) (fun _ _ _ h => h) (by rfl) ?_ (by assumption) ?_
      case' refine_2 => (intro w hSw; (try dsimp only at hSw); go_simp; try with_reducible rfl)
      try simp only [Act.put, List.setIfInBounds_toArray, List.set_cons_zero, List.set_cons_succ]
      refine takeL 8 (v := ?_) rfl (by kernel_rfl) (by kernel_rfl) (by kernel_rfl) (fun _ _ _ h => h) (by rfl) ?_ (by assumption) ?_
      case' refine_2 => (intro w hSw; (try dsimp only at hSw); go_simp; try with_reducible rfl)
      try simp only [Act.put, List.setIfInBounds_toArray, List.set_cons_zero, List.set_cons_succ]
      refine takeL 9 (v := ?_) rfl (by kernel_rfl) (by kernel_rfl) (by kernel_rfl) (fun _ _ _ h => h) (by rfl) ?_ (by assumption) ?_
      case' refine_2 => (intro w hSw; (try dsimp only at hSw); go_simp; try with_reducible rfl)
      try simp only [Act.put, List.setIfInBounds_toArray, List.set_cons_zero, List.set_cons_succ]
      refine soloL 10 rfl (by kernel_rfl) (fun K hK => ?_)
      go_simp
      refine hK.out _ _ (by go_keep) (fun hHeld => ?_)
      clear hK K
      refine soloL 11 rfl (by kernel_rfl) (fun K hK => ?_)
      go_simp
      refine hK.out _ _ (by go_keep) (fun hHeld => ?_)
      clear hK K
      refine wpAnyH_done (by kernel_rfl) ?_ _
      obtain ⟨k0, k1⟩ := hHeld
      go_wp2_with fail
      (try simp only [Exit.inBlock, Exit.then]); refine bodyPost_ret (v := .tuple #[stv (t + 1) r, .int .i64 0]) (by simp [results, show Tryd.f20.results = #[.cell 4 33, .tmp 5] from rfl, go_sem]) rfl ?_
      rw [hc.out]
      refine ⟨rfl, (H.out.setT (t + n) (by omega)).grown (row := none) ?g5 (by simp), ?g6⟩
      case g5 => repeat' first | exact World.grownBy.refl _ _ | refine grown_drew ?_ | refine grown_alloc ?_ _
      case g6 => repeat' first | exact World.grownBy.refl _ _ | refine grown_drew ?_ | refine grown_alloc ?_ _ | refine grown_put ?_ _ _ _ (.inr rfl)

/-- See. -/
theorem See2_any (base p : Nat) (r t t' r' : Int) (w : World) (h : ClkAt w base p r t) :
    Calls Tryd.prog 21 #[.pointer (some ⟨p, 0, none⟩), stv t' r'] w
      (ClkOut w base p (.int .i64 (csee t t' r').1) r (csee t t' r').2) := by
  have H := hid h
  have hbd := h.bd
  have c1 : w.cell? ⟨p, 1, none⟩ = some (.int .i64 t) := by simp [World.cell?, h.own]
  have f1 : w.frozen? ⟨p, 1, none⟩ = false := by simp [World.frozen?, h.own]
  have hlt := h.lt
  have hne := World.new_ne w _ c1
  clear h
  rcases hs : sright t' r' with _ | _
  · have hc := hid (show csee t t' r' = (1, t) by rw [csee, hs]; rfl)
    go_enter Tryd.func21, Tryd.ntmps21
    go_wp2_with fail
    refine (cnone_any base p r t _ (H.out.below (below_alloc1 _ _))).mono ?_
    rintro e w1 ⟨rfl, rfl⟩
    go_wp2_with fail
    refine (Right2_any t' r' _).mono ?_
    rw [hs]
    rintro e w1 ⟨rfl, hb⟩
    have HB := hid hb
    clear hb
    go_wp2_with fail
    go_ret
    rw [hc.out]
    refine ⟨rfl, (H.out.below (below_alloc1 _ _)).below HB.out, ?_⟩
    exact ⟨HB.out.os, HB.out.tape, HB.out.output, Nat.le_trans (below_alloc1 _ _).size HB.out.size, fun k hk _ => (HB.out.block k (Nat.lt_of_lt_of_le hk (below_alloc1 _ _).size)).trans ((below_alloc1 w _).block k hk)⟩
  · have hc := hid (show csee t t' r' = (0, max t t') by rw [csee, hs]; rfl)
    go_enter Tryd.func21, Tryd.ntmps21
    go_wp2_with fail
    refine (cnone_any base p r t _ (H.out.below (below_alloc1 _ _))).mono ?_
    rintro e w1 ⟨rfl, rfl⟩
    go_wp2_with fail
    refine (Right2_any t' r' _).mono ?_
    rw [hs]
    rintro e w1 ⟨rfl, hb⟩
    have HB := hid hb
    have d1 : w1.cell? ⟨p, 1, none⟩ = some (.int .i64 t) := by simp [World.cell?, ((H.out.below (below_alloc1 _ _)).below hb).own]
    have df : w1.frozen? ⟨p, 1, none⟩ = false := by simp [World.frozen?, ((H.out.below (below_alloc1 _ _)).below hb).own]
    have d0 : w1.cell? ⟨w.heap.size, 0, none⟩ = some (.int .i64 t') := by
      rw [hb.cell (by simp)]; simp
    clear hb
    go_wp2_with fail
    go_region
    have hm : 0 ≤ max t t' ∧ max t t' ≤ 1099511627776 := by simp only [sright, decide_eq_true_eq] at hs; omega
    have HG := hid (show w.grownBy w1 (some p) from ⟨HB.out.os, HB.out.tape, HB.out.output, Nat.le_trans (below_alloc1 _ _).size HB.out.size, fun k hk _ => (HB.out.block k (Nat.lt_of_lt_of_le hk (below_alloc1 _ _).size)).trans ((below_alloc1 w _).block k hk)⟩)
    have HC := hid (((H.out.below (below_alloc1 _ _)).below HB.out).setT (max t t') hm)
    all_goals
      go_wp2_with fail
      all_goals
        go_ret
        rw [hc.out]
        have hC := HC.out.grown (row := none) (grown_drew (World.grownBy.refl _ _)) (by simp)
        first
        | rw [show max t t' = t' by omega] at hC ⊢
        | rw [show max t t' = t by omega] at hC ⊢
        refine ⟨rfl, hC, ?_⟩
        repeat' first | exact HG.out | refine grown_drew ?_ | refine grown_put ?_ _ _ _ (.inr rfl)

/-- The document's clock stands in block p. -/
structure RclkAt (w : World) (base p : Nat) (r t : Int) : Prop where
  lo : base ≤ p
  own : w.heap[p]? = some (.cells #[.int .i64 r, .int .i64 t] 89 (0, 0))
  bd : 0 ≤ t ∧ t ≤ 1099511627776
theorem RclkAt.lt {w : World} {base p : Nat} {r t : Int} (h : RclkAt w base p r t) : p < w.heap.size := (Array.getElem?_eq_some_iff.1 h.own).1
theorem RclkAt.below {w w' : World} {base p : Nat} {r t : Int} (h : RclkAt w base p r t) (hb : Below w.heap.size w w') : RclkAt w' base p r t := ⟨h.lo, by rw [hb.block p h.lt]; exact h.own, h.bd⟩
theorem RclkAt.grown {w w' : World} {base p : Nat} {r t : Int} {row : Option Nat} (h : RclkAt w base p r t) (hb : w.grownBy w' row) (hr : row ≠ some p) : RclkAt w' base p r t := ⟨h.lo, by rw [hb.block p h.lt (fun e => hr e.symm)]; exact h.own, h.bd⟩
theorem RclkAt.setT {w : World} {base p : Nat} {r t : Int} (h : RclkAt w base p r t) (t' : Int) (hb : 0 ≤ t' ∧ t' ≤ 1099511627776) : RclkAt (w.setCell ⟨p, 1, none⟩ (.int .i64 t')) base p r t' :=
  ⟨h.lo, by simp [World.setCell, Array.getElem?_modify, h.own], hb⟩
theorem RclkAt.new (w : World) (base : Nat) (r t : Int) (hb : base ≤ w.heap.size) (hs : sright t r = true) : RclkAt (w.alloc (.cells #[.int .i64 r, .int .i64 t] 89)) base w.heap.size r t := ⟨hb, by show (w.heap.push _)[w.heap.size]? = _; simp, by simp [sright] at hs; omega⟩
def RclkOut (w : World) (base p : Nat) (v : Value) (r t : Int) (e : Ending) (w' : World) : Prop := e = .returned v ∧ RclkAt w' base p r t ∧ w.grownBy w' (some p)

theorem rNew2_any (r t : Int) (w : World) : Calls Tryd.prog 16 #[.int .i64 r, .int .i64 t] w fun e w' =>
    if sright t r then ∃ p, e = .returned (.pointer (some ⟨p, 0, none⟩)) ∧ RclkAt w' w.heap.size p r t ∧ Below w.heap.size w w'
    else e = .returned (.pointer none) ∧ Below w.heap.size w w' := by
  rcases hs : sright t r with _ | _
  · go_enter Tryd.func16, Tryd.ntmps16
    go_wp2_with fail
    refine (rRight2_any t r _).mono ?_
    rw [hs]
    rintro e w1 ⟨rfl, hb1⟩
    go_wp2_with fail
    go_ret
    exact ⟨rfl, hb1⟩
  · go_enter Tryd.func16, Tryd.ntmps16
    go_wp2_with fail
    refine (rRight2_any t r _).mono ?_
    rw [hs]
    rintro e w1 ⟨rfl, hb1⟩
    go_wp2_with fail
    go_ret
    exact ⟨_, rfl, RclkAt.new w1 _ r t hb1.size hs, below_new hb1 _⟩
theorem New2_ok (r t : Int) (w : World) (hs : sright t r = true) : Calls Tryd.prog 15 #[.int .i64 r, .int .i64 t] w fun e w' =>
    ∃ p, e = .returned (.tuple #[.pointer (some ⟨p, 0, none⟩), .int .i64 0]) ∧ ClkAt w' w.heap.size p r t ∧ Below w.heap.size w w' :=
  (New2_any r t w).mono fun e w' h => by rw [if_pos hs] at h; exact h
theorem New2_no (r t : Int) (w : World) (hs : sright t r = false) : Calls Tryd.prog 15 #[.int .i64 r, .int .i64 t] w fun e w' =>
    e = .returned (.tuple #[.pointer none, .int .i64 1]) ∧ Below w.heap.size w w' :=
  (New2_any r t w).mono fun e w' h => by rw [if_neg (by simp [hs])] at h; exact h
theorem rNew2_ok (r t : Int) (w : World) (hs : sright t r = true) : Calls Tryd.prog 16 #[.int .i64 r, .int .i64 t] w fun e w' =>
    ∃ p, e = .returned (.pointer (some ⟨p, 0, none⟩)) ∧ RclkAt w' w.heap.size p r t ∧ Below w.heap.size w w' :=
  (rNew2_any r t w).mono fun e w' h => by rw [if_pos hs] at h; exact h
theorem rNew2_no (r t : Int) (w : World) (hs : sright t r = false) : Calls Tryd.prog 16 #[.int .i64 r, .int .i64 t] w fun e w' =>
    e = .returned (.pointer none) ∧ Below w.heap.size w w' :=
  (rNew2_any r t w).mono fun e w' h => by rw [if_neg (by simp [hs])] at h; exact h
end Go.Proofs.YtdbghnfmhgjkaaaDoor
