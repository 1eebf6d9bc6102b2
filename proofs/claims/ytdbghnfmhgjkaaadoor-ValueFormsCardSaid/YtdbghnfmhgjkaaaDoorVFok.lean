/- ValueForms: the walk, of a value that may be. -/
import Derived.Test.YtdbghnfmhgjkaaaDoorVfM
namespace Go.Proofs.YtdbghnfmhgjkaaaDoor
open Go.RowKit Go.Dio
set_option linter.unusedVariables false
set_option linter.unusedSimpArgs false

set_option maxRecDepth 100000 in
set_option maxHeartbeats 8000000 in
theorem ValueForms_ok (k m : Int) (t : ByteArray) (k' m' : Int) (t' : ByteArray) (A : Option Addr) (n c : Nat) (xs : List UInt8) (s : ByteArray) (p : Int) (w : World)
    (ht : t.size ≤ 9223372036854775807) (ht' : t'.size ≤ 9223372036854775807) (h : IsB w A n c xs) (hn : n ≤ 140737488351232) (hs : s.size ≤ 140737488351232) (hp : PowTab w) (he : ErrsAt w) (hr : vright k m t = true) :
    Calls Tryd.prog 13 #[vv k m t, vv k' m' t', .slice A n c, .string s, .int .i64 p] w fun e w' => e = .returned (.bool true) ∧ Below w.heap.size w w' := by
  have hc := h.cap; have hm := h.max
  have hlen := h.len
  have H0 := hid (below_alloc2 w (vo k m t) (vo k' m' t'))
  have SA0 := hid ((VAt.new w k m t _ rfl).below (below_alloc1 _ (vo k' m' t')))
  have SB0 := hid (VAt.new (w.alloc (vo k m t)) k' m' t' (w.heap.size + 1) (by simp))
  have I0 := hid (h.below H0.out)
  have P0 := hid (hp.below H0.out)
  have E0 := hid (he.below H0.out)
  have HR := hid hr
  clear h hp he hr
  go_enter Tryd.func13, Tryd.ntmps13
  go_wp2_with fail
  refine (Lent_any A n c xs _ I0.out (by omega)).mono ?_
  rintro e w1 ⟨g, cap, rfl, hL, hb⟩
  have H1 := hid (below_then H0.out hb)
  have SA1 := hid (SA0.out.below hb)
  have SB1 := hid (SB0.out.below hb)
  have I1 := hid (I0.out.below hb)
  have P1 := hid (P0.out.below hb)
  have E1 := hid (E0.out.below hb)
  have LB1 := hid hL
  have J1 := hid hL.isB.1
  have glt := hL.isB.2.1
  clear hb hL I0 P0 E0 SA0 SB0
  rw [hlen] at J1 ⊢
  go_wp2_with fail
  refine (Open_any (some ⟨g, 0, none⟩) n cap xs _ J1.out (by omega)).mono ?_
  rintro e w2 ⟨rb, rfl, hrd, hb⟩
  have B2 := hid hb
  have R2 := hid hrd
  have rlo := hrd.lo
  have rlt := hrd.lt
  clear hb hrd
  go_wp2_with fail
  refine (dOpen_any A n c xs _ (I1.out.below B2.out) (by omega)).mono ?_
  rintro e w3 ⟨qb, rfl, hrd, hb⟩
  have B3 := hid (below_then B2.out hb)
  have R3 := hid (R2.out.below hb)
  have Q3 := hid hrd
  have qlo := hrd.lo
  clear hb hrd R2 B2
  have c0 := (SA1.out.below B3.out).c0; have c1 := (SA1.out.below B3.out).c1; have c2 := (SA1.out.below B3.out).c2
  go_wp2_with fail
  refine (VPut_ok k m t _ ht HR.out).mono ?_
  rintro e w4 ⟨v4, rfl, ho, hb⟩
  obtain ⟨A4, n4, k4, rfl, hI, -⟩ := ho.form
  have I4 := hid hI
  clear ho hI
  have B4 := hid (below_then B3.out hb)
  have R4 := hid (R3.out.below hb)
  have Q4 := hid (Q3.out.below hb)
  clear hb c0 c1 c2 R3 Q3 B3
  go_wp2_with fail
  refine (VParse_any s _ (by omega) (P1.out.below B4.out) (E1.out.below B4.out)).mono ?_
  generalize hq : pParse s.toList = q
  have HQ := hid hq
  clear hq
  obtain ⟨⟨z1, z2, z3⟩, zb⟩ := q
  dsimp only
  rintro e w6 ⟨rfl, hb⟩
  have N6 := hid (below_new hb (vo z1 z2 z3))
  have B6 := hid (below_then B4.out N6.out)
  have R6 := hid (R4.out.below N6.out)
  have Q6 := hid (Q4.out.below N6.out)
  have J6 := hid (I4.out.below N6.out)
  have X6 := hid (VAt.new w6 z1 z2 z3 _ rfl)
  clear hb R4 Q4 B4 I4 N6
  go_wp2_with fail
  refine (rVParse_any s _ (by omega)).mono ?_
  rw [HQ.out]
  dsimp only
  rintro e w7 ⟨rfl, hb⟩
  have N7 := hid (below_new hb (vo z1 z2 z3))
  have B7 := hid (below_then B6.out N7.out)
  have R7 := hid (R6.out.below N7.out)
  have Q7 := hid (Q6.out.below N7.out)
  have J7 := hid (J6.out.below N7.out)
  have X7 := hid (X6.out.below N7.out)
  have Y7 := hid (VAt.new w7 z1 z2 z3 _ rfl)
  clear hb R6 Q6 B6 J6 N7 X6
  go_wp2_with fail
  generalize hV : w7.alloc (vo z1 z2 z3) = V at *
  clear hV
  generalize w7.heap.size = p7 at *
  generalize w6.heap.size = p6 at *
  have SA7 := hid (SA1.out.below B7.out)
  have hHeld0 : Below V.heap.size V V.drew := (Below.refl _ _).drew
  refine wp_region_held_drew (S := fun w' => Below V.heap.size V w') (by kernel_rfl) (by exact hHeld0) (fun hHeld => ?_)
  clear hHeld0
  refine takeL 0 (v := ?_) rfl (by kernel_rfl) (by kernel_rfl) (by kernel_rfl) (fun _ _ _ h => h) (by rfl) ?_ (by assumption) ?_
  case' refine_2 => (intro w hSw; (try dsimp only at hSw); go_simp; try with_reducible rfl)
  try simp only [Act.put, List.setIfInBounds_toArray, List.set_cons_zero, List.set_cons_succ]
  refine takeL 1 (v := ?_) rfl (by kernel_rfl) (by kernel_rfl) (by kernel_rfl) (fun _ _ _ h => h) (by rfl) ?_ (by assumption) ?_
  case' refine_2 => (intro w hSw; (try dsimp only at hSw); have y0 := run_string (P := Tryd.prog) 55 9 5 Tryd.underlying55 Tryd.underlying5 Tryd.underlying9 (J7.out.below hSw); go_simp; try with_reducible rfl)
  try simp only [Act.put, List.setIfInBounds_toArray, List.set_cons_zero, List.set_cons_succ]
  refine takeL 2 (v := ?_) rfl (by kernel_rfl) (by kernel_rfl) (by kernel_rfl) (fun _ _ _ h => h) (by rfl) ?_ (by assumption) ?_
  case' refine_2 => (intro w hSw; (try dsimp only at hSw); have y0 := (SA7.out.below hSw).c0; have y1 := (SA7.out.below hSw).c1; have y2 := (SA7.out.below hSw).c2; go_simp; try with_reducible rfl)
  try simp only [Act.put, List.setIfInBounds_toArray, List.set_cons_zero, List.set_cons_succ]
  refine soloL 3 rfl (by kernel_rfl) (fun K hK => ?_)
  go_simp
  go_at_call 56
  refine (rVPut_ok k m t _ ht HR.out).mono ?_
  rintro e wN ⟨v5, rfl, ho, hb⟩
  obtain ⟨A5, n5, k5, rfl, hI, -⟩ := ho.form
  have I5 := hid hI
  have hS := below_then hHeld hb
  clear ho hI hb
  go_wp2_with fail
  refine hK.out _ _ hS (fun hHeld => ?_)
  clear hK K
  clear hS
  refine soloL 4 rfl (by kernel_rfl) (fun K hK => ?_)
  have y0 := run_string (P := Tryd.prog) 55 9 5 Tryd.underlying55 Tryd.underlying5 Tryd.underlying9 I5.out
  go_simp
  refine hK.out _ _ hHeld (fun hHeld2 => ?_)
  clear hK K hHeld2 y0 I5
  refine takeL 5 (v := ?_) rfl (by kernel_rfl) (by kernel_rfl) (by kernel_rfl) (fun _ _ _ h => h) (by rfl) ?_ (by assumption) ?_
  case' refine_2 => (intro w hSw; (try dsimp only at hSw); go_simp; try with_reducible rfl)
  try simp only [Act.put, List.setIfInBounds_toArray, List.set_cons_zero, List.set_cons_succ]
  refine takeL 6 (v := ?_) rfl (by kernel_rfl) (by kernel_rfl) (by kernel_rfl) (fun _ _ _ h => h) (by rfl) ?_ (by assumption) ?_
  case' refine_2 => (intro w hSw; (try dsimp only at hSw); go_simp; try with_reducible rfl)
  try simp only [Act.put, List.setIfInBounds_toArray, List.set_cons_zero, List.set_cons_succ]
  refine takeL 7 (v := ?_) rfl (by kernel_rfl) (by kernel_rfl) (by kernel_rfl) (fun _ _ _ h => h) (by rfl) ?_ (by assumption) ?_
  case' refine_2 => (intro w hSw; (try dsimp only at hSw); go_simp; try with_reducible rfl)
  try simp only [Act.put, List.setIfInBounds_toArray, List.set_cons_zero, List.set_cons_succ]
  refine takeL 10 (v := ?_) rfl (by kernel_rfl) (by kernel_rfl) (by kernel_rfl) (fun _ _ _ h => h) (by rfl) ?_ (by assumption) ?_
  case' refine_2 => (intro w hSw; (try dsimp only at hSw); have y0 := (SA7.out.below hSw).c0; have y1 := (SA7.out.below hSw).c1; have y2 := (SA7.out.below hSw).c2; go_simp; try with_reducible rfl)
  try simp only [Act.put, List.setIfInBounds_toArray, List.set_cons_zero, List.set_cons_succ]
  refine soloL 8 rfl (by kernel_rfl) (fun K hK => ?_)
  go_simp
  go_at_call 27
  refine (num3_any 0 _).mono ?_
  rintro e wN ⟨rfl, rfl⟩
  go_wp2_with fail
  refine hK.out _ _ hHeld (fun hHeld => ?_)
  clear hK K
  refine takeL 9 (v := ?_) rfl (by kernel_rfl) (by kernel_rfl) (by kernel_rfl) (fun _ _ _ h => h) (by rfl) ?_ (by assumption) ?_
  case' refine_2 => (intro w hSw; (try dsimp only at hSw); go_simp; try with_reducible rfl)
  try simp only [Act.put, List.setIfInBounds_toArray, List.set_cons_zero, List.set_cons_succ]
  refine soloL 11 rfl (by kernel_rfl) (fun K hK => ?_)
  go_simp
  go_at_call 57
  refine (rVRight_any k m t _ ht).mono ?_
  rw [HR.out]
  rintro e wN ⟨rfl, hb⟩
  have hS := below_then hHeld hb
  clear hb
  go_wp2_with fail
  refine hK.out _ _ hS (fun hHeld => ?_)
  clear hK K
  clear hS
  refine takeL 12 (v := ?_) rfl (by kernel_rfl) (by kernel_rfl) (by kernel_rfl) (fun _ _ _ h => h) (by rfl) ?_ (by assumption) ?_
  case' refine_2 => (intro w hSw; (try dsimp only at hSw); go_simp; try with_reducible rfl)
  try simp only [Act.put, List.setIfInBounds_toArray, List.set_cons_zero, List.set_cons_succ]
  refine takeL 13 (v := ?_) rfl (by kernel_rfl) (by kernel_rfl) (by kernel_rfl) (fun _ _ _ h => h) (by rfl) ?_ (by assumption) ?_
  case' refine_2 => (intro w hSw; (try dsimp only at hSw); go_simp; try with_reducible rfl)
  try simp only [Act.put, List.setIfInBounds_toArray, List.set_cons_zero, List.set_cons_succ]
  refine takeL 14 (v := ?_) rfl (by kernel_rfl) (by kernel_rfl) (by kernel_rfl) (fun _ _ _ h => h) (by rfl) ?_ (by assumption) ?_
  case' refine_2 => (intro w hSw; (try dsimp only at hSw); go_simp; try with_reducible rfl)
  try simp only [Act.put, List.setIfInBounds_toArray, List.set_cons_zero, List.set_cons_succ]
  refine takeL 15 (v := ?_) rfl (by kernel_rfl) (by kernel_rfl) (by kernel_rfl) (fun _ _ _ h => h) (by rfl) ?_ (by assumption) ?_
  case' refine_2 => (intro w hSw; (try dsimp only at hSw); have y0 := (SA7.out.below hSw).c0; have y1 := (SA7.out.below hSw).c1; have y2 := (SA7.out.below hSw).c2; go_simp; try with_reducible rfl)
  try simp only [Act.put, List.setIfInBounds_toArray, List.set_cons_zero, List.set_cons_succ]
  refine soloL 16 rfl (by kernel_rfl) (fun K hK => ?_)
  go_simp
  go_at_call 57
  refine (rVRight_any k m t _ ht).mono ?_
  rw [HR.out]
  rintro e wN ⟨rfl, hb⟩
  have hS := below_then hHeld hb
  clear hb
  go_wp2_with fail
  refine hK.out _ _ hS (fun hHeld => ?_)
  clear hK K
  clear hS
  refine takeL 17 (v := ?_) rfl (by kernel_rfl) (by kernel_rfl) (by kernel_rfl) (fun _ _ _ h => h) (by rfl) ?_ (by assumption) ?_
  case' refine_2 => (intro w hSw; (try dsimp only at hSw); go_simp; try with_reducible rfl)
  try simp only [Act.put, List.setIfInBounds_toArray, List.set_cons_zero, List.set_cons_succ]
  refine takeL 18 (v := ?_) rfl (by kernel_rfl) (by kernel_rfl) (by kernel_rfl) (fun _ _ _ h => h) (by rfl) ?_ (by assumption) ?_
  case' refine_2 => (intro w hSw; (try dsimp only at hSw); go_simp; try with_reducible rfl)
  try simp only [Act.put, List.setIfInBounds_toArray, List.set_cons_zero, List.set_cons_succ]
  refine skipL 19 rfl (by kernel_rfl) (by kernel_rfl) (by kernel_rfl) (fun _ _ _ h => h) (by rfl) (by assumption) ?_
  try simp only [Act.put, List.setIfInBounds_toArray, List.set_cons_zero, List.set_cons_succ]
  refine skipL 20 rfl (by kernel_rfl) (by kernel_rfl) (by kernel_rfl) (fun _ _ _ h => h) (by rfl) (by assumption) ?_
  try simp only [Act.put, List.setIfInBounds_toArray, List.set_cons_zero, List.set_cons_succ]
  refine skipL 21 rfl (by kernel_rfl) (by kernel_rfl) (by kernel_rfl) (fun _ _ _ h => h) (by rfl) (by assumption) ?_
  try simp only [Act.put, List.setIfInBounds_toArray, List.set_cons_zero, List.set_cons_succ]
  refine takeL 22 (v := ?_) rfl (by kernel_rfl) (by kernel_rfl) (by kernel_rfl) (fun _ _ _ h => h) (by rfl) ?_ (by assumption) ?_
  case' refine_2 => (intro w hSw; (try dsimp only at hSw); go_simp; try with_reducible rfl)
  try simp only [Act.put, List.setIfInBounds_toArray, List.set_cons_zero, List.set_cons_succ]
  refine takeL 23 (v := ?_) rfl (by kernel_rfl) (by kernel_rfl) (by kernel_rfl) (fun _ _ _ h => h) (by rfl) ?_ (by assumption) ?_
  case' refine_2 => (intro w hSw; (try dsimp only at hSw); go_simp; try with_reducible rfl)
  try simp only [Act.put, List.setIfInBounds_toArray, List.set_cons_zero, List.set_cons_succ]
  refine takeL 24 (v := ?_) rfl (by kernel_rfl) (by kernel_rfl) (by kernel_rfl) (fun _ _ _ h => h) (by rfl) ?_ (by assumption) ?_
  case' refine_2 => (intro w hSw; (try dsimp only at hSw); go_simp; try with_reducible rfl)
  try simp only [Act.put, List.setIfInBounds_toArray, List.set_cons_zero, List.set_cons_succ]
  refine takeL 25 (v := ?_) rfl (by kernel_rfl) (by kernel_rfl) (by kernel_rfl) (fun _ _ _ h => h) (by rfl) ?_ (by assumption) ?_
  case' refine_2 => (intro w hSw; (try dsimp only at hSw); have y0 := (X7.out.below hSw).c0; have y1 := (X7.out.below hSw).c1; have y2 := (X7.out.below hSw).c2; have y3 := (Y7.out.below hSw).c0; have y4 := (Y7.out.below hSw).c1; have y5 := (Y7.out.below hSw).c2; go_simp; try with_reducible rfl)
  try simp only [Act.put, List.setIfInBounds_toArray, List.set_cons_zero, List.set_cons_succ]
  refine takeL 26 (v := ?_) rfl (by kernel_rfl) (by kernel_rfl) (by kernel_rfl) (fun _ _ _ h => h) (by rfl) ?_ (by assumption) ?_
  case' refine_2 => (intro w hSw; (try dsimp only at hSw); have y0 := (X7.out.below hSw).c0; have y1 := (X7.out.below hSw).c1; have y2 := (X7.out.below hSw).c2; have y3 := (Y7.out.below hSw).c0; have y4 := (Y7.out.below hSw).c1; have y5 := (Y7.out.below hSw).c2; go_simp; try with_reducible rfl)
  try simp only [Act.put, List.setIfInBounds_toArray, List.set_cons_zero, List.set_cons_succ]
  refine takeL 27 (v := ?_) rfl (by kernel_rfl) (by kernel_rfl) (by kernel_rfl) (fun _ _ _ h => h) (by rfl) ?_ (by assumption) ?_
  case' refine_2 => (intro w hSw; (try dsimp only at hSw); go_simp; try with_reducible rfl)
  try simp only [Act.put, List.setIfInBounds_toArray, List.set_cons_zero, List.set_cons_succ]
  refine takeL 28 (v := ?_) rfl (by kernel_rfl) (by kernel_rfl) (by kernel_rfl) (fun _ _ _ h => h) (by rfl) ?_ (by assumption) ?_
  case' refine_2 => (intro w hSw; (try dsimp only at hSw); go_simp; try with_reducible rfl)
  try simp only [Act.put, List.setIfInBounds_toArray, List.set_cons_zero, List.set_cons_succ]
  refine takeL 29 (v := ?_) rfl (by kernel_rfl) (by kernel_rfl) (by kernel_rfl) (fun _ _ _ h => h) (by rfl) ?_ (by assumption) ?_
  case' refine_2 => (intro w hSw; (try dsimp only at hSw); go_simp; try with_reducible rfl)
  try simp only [Act.put, List.setIfInBounds_toArray, List.set_cons_zero, List.set_cons_succ]
  refine takeL 30 (v := ?_) rfl (by kernel_rfl) (by kernel_rfl) (by kernel_rfl) (fun _ _ _ h => h) (by rfl) ?_ (by assumption) ?_
  case' refine_2 => (intro w hSw; (try dsimp only at hSw); go_simp; try with_reducible rfl)
  try simp only [Act.put, List.setIfInBounds_toArray, List.set_cons_zero, List.set_cons_succ]
  refine takeL 31 (v := ?_) rfl (by kernel_rfl) (by kernel_rfl) (by kernel_rfl) (fun _ _ _ h => h) (by rfl) ?_ (by assumption) ?_
  case' refine_2 => (intro w hSw; (try dsimp only at hSw); go_simp; try with_reducible rfl)
  try simp only [Act.put, List.setIfInBounds_toArray, List.set_cons_zero, List.set_cons_succ]
  refine takeL 32 (v := ?_) rfl (by kernel_rfl) (by kernel_rfl) (by kernel_rfl) (fun _ _ _ h => h) (by rfl) ?_ (by assumption) ?_
  case' refine_2 => (intro w hSw; (try dsimp only at hSw); go_simp; try with_reducible rfl)
  try simp only [Act.put, List.setIfInBounds_toArray, List.set_cons_zero, List.set_cons_succ]
  refine takeL 33 (v := ?_) rfl (by kernel_rfl) (by kernel_rfl) (by kernel_rfl) (fun _ _ _ h => h) (by rfl) ?_ (by assumption) ?_
  case' refine_2 => (intro w hSw; (try dsimp only at hSw); go_simp; try with_reducible rfl)
  try simp only [Act.put, List.setIfInBounds_toArray, List.set_cons_zero, List.set_cons_succ]
  refine wpAnyH_done (by kernel_rfl) ?_ _
  have B8 := hid (below_then B7.out hHeld)
  have R8 := hid ((R7.out.below hHeld).drew)
  have Q8 := hid ((Q7.out.below hHeld).drew)
  clear hHeld B7 R7 Q7 X7 Y7 J7 SA7 HQ
  go_wp2_with fail
  have hrq : rb ≠ qb := by omega
  have hHeld0 := B8.out.drew
  refine wp_region_held_drew (S := fun w' => Below w1.heap.size w1 w') (by kernel_rfl) (by exact hHeld0) (fun hHeld => ?_)
  clear hHeld0
  refine takeL 0 (v := ?_) rfl (by kernel_rfl) (by kernel_rfl) (by kernel_rfl) (fun _ _ _ h => h) (by rfl) ?_ (by assumption) ?_
  case' refine_2 => (intro w hSw; (try dsimp only at hSw); go_simp; try with_reducible rfl)
  try simp only [Act.put, List.setIfInBounds_toArray, List.set_cons_zero, List.set_cons_succ]
  refine takeL 2 (v := ?_) rfl (by kernel_rfl) (by kernel_rfl) (by kernel_rfl) (fun _ _ _ h => h) (by rfl) ?_ (by assumption) ?_
  case' refine_2 => (intro w hSw; (try dsimp only at hSw); go_simp; try with_reducible rfl)
  try simp only [Act.put, List.setIfInBounds_toArray, List.set_cons_zero, List.set_cons_succ]
  refine soloL 1 rfl (by kernel_rfl) (fun K hK => ?_)
  go_simp
  go_at_call 58
  refine (VTake_any _ rb _ _ R8.out (by dsimp only; omega)).mono ?_
  generalize hq : tVal (xs, 0) = q
  have HQ := hid hq
  clear hq
  obtain ⟨⟨x1, x2, x3⟩, s9⟩ := q
  dsimp only
  rintro e w9 ⟨rfl, hrd, hg⟩
  have B9 := hid (hHeld.grown hg hHeld.size (fun q hq => by cases hq; exact rlo))
  have R9 := hid hrd
  have Q9 := hid (Q8.out.side R8.out hrq hg)
  clear hrd hg R8 Q8 B8
  go_wp2_with fail
  refine hK.out _ _ B9.out (fun hHeld => ?_)
  clear hK K
  refine soloL 3 rfl (by kernel_rfl) (fun K hK => ?_)
  go_simp
  go_at_call 59
  refine (rVTake_any _ qb _ _ Q9.out (by dsimp only; omega)).mono ?_
  rw [HQ.out]
  dsimp only
  rintro e w10 ⟨rfl, hrd, hg⟩
  have B10 := hid (B9.out.grown hg B9.out.size (fun q hq => by cases hq; omega))
  have R10 := hid (R9.out.side Q9.out hrq hg)
  have Q10 := hid hrd
  clear hrd hg R9 Q9 B9 HQ
  go_wp2_with fail
  refine hK.out _ _ B10.out (fun hHeld => ?_)
  clear hK K hHeld
  refine wpAnyH_more (S' := fun w' => Below w10.heap.size w10 w') (fun w' h => below_then B10.out h) _ _ _ _ ?_
  have hHeld : Below w10.heap.size w10 w10 := Below.refl _ _
  refine takeL 4 (v := ?_) rfl (by kernel_rfl) (by kernel_rfl) (by kernel_rfl) (fun _ _ _ h => h) (by rfl) ?_ (by assumption) ?_
  case' refine_2 => (intro w hSw; (try dsimp only at hSw); go_simp; try with_reducible rfl)
  try simp only [Act.put, List.setIfInBounds_toArray, List.set_cons_zero, List.set_cons_succ]
  refine takeL 5 (v := ?_) rfl (by kernel_rfl) (by kernel_rfl) (by kernel_rfl) (fun _ _ _ h => h) (by rfl) ?_ (by assumption) ?_
  case' refine_2 => (intro w hSw; (try dsimp only at hSw); go_simp; try with_reducible rfl)
  try simp only [Act.put, List.setIfInBounds_toArray, List.set_cons_zero, List.set_cons_succ]
  refine takeL 6 (v := ?_) rfl (by kernel_rfl) (by kernel_rfl) (by kernel_rfl) (fun _ _ _ h => h) (by rfl) ?_ (by assumption) ?_
  case' refine_2 => (intro w hSw; (try dsimp only at hSw); go_simp; try with_reducible rfl)
  try simp only [Act.put, List.setIfInBounds_toArray, List.set_cons_zero, List.set_cons_succ]
  refine takeL 8 (v := ?_) rfl (by kernel_rfl) (by kernel_rfl) (by kernel_rfl) (fun _ _ _ h => h) (by rfl) ?_ (by assumption) ?_
  case' refine_2 => (intro w hSw; (try dsimp only at hSw); go_simp; try with_reducible rfl)
  try simp only [Act.put, List.setIfInBounds_toArray, List.set_cons_zero, List.set_cons_succ]
  refine soloL 7 rfl (by kernel_rfl) (fun K hK => ?_)
  go_simp
  go_at_call 46
  refine (Left_r _ rb _ _ R10.out).mono ?_
  rintro e wN ⟨rfl, rfl⟩
  go_wp2_with fail
  refine hK.out _ _ hHeld (fun hHeld => ?_)
  clear hK K
  refine soloL 9 rfl (by kernel_rfl) (fun K hK => ?_)
  go_simp
  go_at_call 47
  refine (dLeft_r _ qb _ _ Q10.out).mono ?_
  rintro e wN ⟨rfl, hd⟩
  have hS := below_then hHeld hd.below
  clear hd
  go_wp2_with fail
  refine hK.out _ _ hS (fun hHeld => ?_)
  clear hK K
  clear hS
  refine takeL 10 (v := ?_) rfl (by kernel_rfl) (by kernel_rfl) (by kernel_rfl) (fun _ _ _ h => h) (by rfl) ?_ (by assumption) ?_
  case' refine_2 => (intro w hSw; (try dsimp only at hSw); go_simp; try with_reducible rfl)
  try simp only [Act.put, List.setIfInBounds_toArray, List.set_cons_zero, List.set_cons_succ]
  refine takeL 11 (v := ?_) rfl (by kernel_rfl) (by kernel_rfl) (by kernel_rfl) (fun _ _ _ h => h) (by rfl) ?_ (by assumption) ?_
  case' refine_2 => (intro w hSw; (try dsimp only at hSw); go_simp; try with_reducible rfl)
  try simp only [Act.put, List.setIfInBounds_toArray, List.set_cons_zero, List.set_cons_succ]
  refine takeL 12 (v := ?_) rfl (by kernel_rfl) (by kernel_rfl) (by kernel_rfl) (fun _ _ _ h => h) (by rfl) ?_ (by assumption) ?_
  case' refine_2 => (intro w hSw; (try dsimp only at hSw); go_simp; try with_reducible rfl)
  try simp only [Act.put, List.setIfInBounds_toArray, List.set_cons_zero, List.set_cons_succ]
  refine takeL 13 (v := ?_) rfl (by kernel_rfl) (by kernel_rfl) (by kernel_rfl) (fun _ _ _ h => h) (by rfl) ?_ (by assumption) ?_
  case' refine_2 => (intro w hSw; (try dsimp only at hSw); go_simp; try with_reducible rfl)
  try simp only [Act.put, List.setIfInBounds_toArray, List.set_cons_zero, List.set_cons_succ]
  refine takeL 16 (v := ?_) rfl (by kernel_rfl) (by kernel_rfl) (by kernel_rfl) (fun _ _ _ h => h) (by rfl) ?_ (by assumption) ?_
  case' refine_2 => (intro w hSw; (try dsimp only at hSw); go_simp; try with_reducible rfl)
  try simp only [Act.put, List.setIfInBounds_toArray, List.set_cons_zero, List.set_cons_succ]
  refine takeL 17 (v := ?_) rfl (by kernel_rfl) (by kernel_rfl) (by kernel_rfl) (fun _ _ _ h => h) (by rfl) ?_ (by assumption) ?_
  case' refine_2 => (intro w hSw; (try dsimp only at hSw); go_simp; try with_reducible rfl)
  try simp only [Act.put, List.setIfInBounds_toArray, List.set_cons_zero, List.set_cons_succ]
  refine takeL 18 (v := ?_) rfl (by kernel_rfl) (by kernel_rfl) (by kernel_rfl) (fun _ _ _ h => h) (by rfl) ?_ (by assumption) ?_
  case' refine_2 => (intro w hSw; (try dsimp only at hSw); go_simp; try with_reducible rfl)
  try simp only [Act.put, List.setIfInBounds_toArray, List.set_cons_zero, List.set_cons_succ]
  refine takeL 19 (v := ?_) rfl (by kernel_rfl) (by kernel_rfl) (by kernel_rfl) (fun _ _ _ h => h) (by rfl) ?_ (by assumption) ?_
  case' refine_2 => (intro w hSw; (try dsimp only at hSw); have y0 := (Q10.out.below hSw).cE; go_simp; try with_reducible rfl)
  try simp only [Act.put, List.setIfInBounds_toArray, List.set_cons_zero, List.set_cons_succ]
  refine soloL 14 rfl (by kernel_rfl) (fun K hK => ?_)
  go_simp
  go_at_call 60
  refine (Err_r _ rb _ _ (R10.out.below hHeld)).mono ?_
  rintro e wN ⟨rfl, rfl⟩
  go_wp2_with fail
  refine hK.out _ _ hHeld (fun hHeld => ?_)
  clear hK K
  refine soloL 15 rfl (by kernel_rfl) (fun K hK => ?_)
  go_simp
  go_at_call 27
  refine (num3_any _ _).mono ?_
  rintro e wN ⟨rfl, rfl⟩
  go_wp2_with fail
  refine hK.out _ _ hHeld (fun hHeld => ?_)
  clear hK K
  refine takeL 20 (v := ?_) rfl (by kernel_rfl) (by kernel_rfl) (by kernel_rfl) (fun _ _ _ h => h) (by rfl) ?_ (by assumption) ?_
  case' refine_2 => (intro w hSw; (try dsimp only at hSw); go_simp; try with_reducible rfl)
  try simp only [Act.put, List.setIfInBounds_toArray, List.set_cons_zero, List.set_cons_succ]
  refine takeL 21 (v := ?_) rfl (by kernel_rfl) (by kernel_rfl) (by kernel_rfl) (fun _ _ _ h => h) (by rfl) ?_ (by assumption) ?_
  case' refine_2 => (intro w hSw; (try dsimp only at hSw); go_simp; try with_reducible rfl)
  try simp only [Act.put, List.setIfInBounds_toArray, List.set_cons_zero, List.set_cons_succ]
  refine takeL 22 (v := ?_) rfl (by kernel_rfl) (by kernel_rfl) (by kernel_rfl) (fun _ _ _ h => h) (by rfl) ?_ (by assumption) ?_
  case' refine_2 => (intro w hSw; (try dsimp only at hSw); go_simp; try with_reducible rfl)
  try simp only [Act.put, List.setIfInBounds_toArray, List.set_cons_zero, List.set_cons_succ]
  refine takeL 23 (v := ?_) rfl (by kernel_rfl) (by kernel_rfl) (by kernel_rfl) (fun _ _ _ h => h) (by rfl) ?_ (by assumption) ?_
  case' refine_2 => (intro w hSw; (try dsimp only at hSw); go_simp; try with_reducible rfl)
  try simp only [Act.put, List.setIfInBounds_toArray, List.set_cons_zero, List.set_cons_succ]
  refine takeL 24 (v := ?_) rfl (by kernel_rfl) (by kernel_rfl) (by kernel_rfl) (fun _ _ _ h => h) (by rfl) ?_ (by assumption) ?_
  case' refine_2 => (intro w hSw; (try dsimp only at hSw); go_simp; try with_reducible rfl)
  try simp only [Act.put, List.setIfInBounds_toArray, List.set_cons_zero, List.set_cons_succ]
  refine soloL 25 rfl (by kernel_rfl) (fun K hK => ?_)
  go_simp
  go_at_call 49
  refine (Stays_any g cap _ A n c xs _ (I1.out.below (below_then B10.out hHeld)) (show LentB _ _ g cap xs from OwnB.keep LB1.out (below_then B10.out hHeld) glt) (by omega)).mono ?_
  rintro e wN ⟨rfl, hd⟩
  have hS := below_then hHeld hd.below
  clear hd
  go_wp2_with fail
  refine hK.out _ _ hS (fun hHeld => ?_)
  clear hK K
  clear hS
  refine takeL 26 (v := ?_) rfl (by kernel_rfl) (by kernel_rfl) (by kernel_rfl) (fun _ _ _ h => h) (by rfl) ?_ (by assumption) ?_
  case' refine_2 => (intro w hSw; (try dsimp only at hSw); go_simp; try with_reducible rfl)
  try simp only [Act.put, List.setIfInBounds_toArray, List.set_cons_zero, List.set_cons_succ]
  refine takeL 27 (v := ?_) rfl (by kernel_rfl) (by kernel_rfl) (by kernel_rfl) (fun _ _ _ h => h) (by rfl) ?_ (by assumption) ?_
  case' refine_2 => (intro w hSw; (try dsimp only at hSw); go_simp; try with_reducible rfl)
  try simp only [Act.put, List.setIfInBounds_toArray, List.set_cons_zero, List.set_cons_succ]
  refine wpAnyH_done (by kernel_rfl) ?_ _
  have B13 := hid (below_then B10.out hHeld)
  clear hHeld R10 Q10 B10 LB1 J1
  go_wp2_with fail
  have hHeld0 := B13.out.drew
  refine wp_region_held_drew (S := fun w' => Below w1.heap.size w1 w') (by kernel_rfl) (by exact hHeld0) (fun hHeld => ?_)
  clear hHeld0
  refine takeL 0 (v := ?_) rfl (by kernel_rfl) (by kernel_rfl) (by kernel_rfl) (fun _ _ _ h => h) (by rfl) ?_ (by assumption) ?_
  case' refine_2 => (intro w hSw; (try dsimp only at hSw); have y0 := (SA1.out.below hSw).c0; have y1 := (SA1.out.below hSw).c1; have y2 := (SA1.out.below hSw).c2; go_simp; try with_reducible rfl)
  try simp only [Act.put, List.setIfInBounds_toArray, List.set_cons_zero, List.set_cons_succ]
  refine takeL 2 (v := ?_) rfl (by kernel_rfl) (by kernel_rfl) (by kernel_rfl) (fun _ _ _ h => h) (by rfl) ?_ (by assumption) ?_
  case' refine_2 => (intro w hSw; (try dsimp only at hSw); have y0 := (SA1.out.below hSw).c0; have y1 := (SA1.out.below hSw).c1; have y2 := (SA1.out.below hSw).c2; go_simp; try with_reducible rfl)
  try simp only [Act.put, List.setIfInBounds_toArray, List.set_cons_zero, List.set_cons_succ]
  refine soloL 1 rfl (by kernel_rfl) (fun K hK => ?_)
  go_simp
  go_at_call 61
  refine (VRight_any k m t _ ht).mono ?_
  rw [HR.out]
  rintro e wN ⟨rfl, hb⟩
  have hS := below_then hHeld hb
  clear hb
  go_wp2_with fail
  refine hK.out _ _ hS (fun hHeld => ?_)
  clear hK K
  clear hS
  refine soloL 3 rfl (by kernel_rfl) (fun K hK => ?_)
  go_simp
  go_at_call 57
  refine (rVRight_any k m t _ ht).mono ?_
  rw [HR.out]
  rintro e wN ⟨rfl, hb⟩
  have hS := below_then hHeld hb
  clear hb
  go_wp2_with fail
  refine hK.out _ _ hS (fun hHeld => ?_)
  clear hK K
  clear hS
  refine takeL 4 (v := ?_) rfl (by kernel_rfl) (by kernel_rfl) (by kernel_rfl) (fun _ _ _ h => h) (by rfl) ?_ (by assumption) ?_
  case' refine_2 => (intro w hSw; (try dsimp only at hSw); go_simp; try with_reducible rfl)
  try simp only [Act.put, List.setIfInBounds_toArray, List.set_cons_zero, List.set_cons_succ]
  refine takeL 5 (v := ?_) rfl (by kernel_rfl) (by kernel_rfl) (by kernel_rfl) (fun _ _ _ h => h) (by rfl) ?_ (by assumption) ?_
  case' refine_2 => (intro w hSw; (try dsimp only at hSw); go_simp; try with_reducible rfl)
  try simp only [Act.put, List.setIfInBounds_toArray, List.set_cons_zero, List.set_cons_succ]
  refine takeL 6 (v := ?_) rfl (by kernel_rfl) (by kernel_rfl) (by kernel_rfl) (fun _ _ _ h => h) (by rfl) ?_ (by assumption) ?_
  case' refine_2 => (intro w hSw; (try dsimp only at hSw); have y0 := (SA1.out.below hSw).c0; have y1 := (SA1.out.below hSw).c1; have y2 := (SA1.out.below hSw).c2; go_simp; try with_reducible rfl)
  try simp only [Act.put, List.setIfInBounds_toArray, List.set_cons_zero, List.set_cons_succ]
  refine takeL 9 (v := ?_) rfl (by kernel_rfl) (by kernel_rfl) (by kernel_rfl) (fun _ _ _ h => h) (by rfl) ?_ (by assumption) ?_
  case' refine_2 => (intro w hSw; (try dsimp only at hSw); have y0 := (SA1.out.below hSw).c0; have y1 := (SA1.out.below hSw).c1; have y2 := (SA1.out.below hSw).c2; go_simp; try with_reducible rfl)
  try simp only [Act.put, List.setIfInBounds_toArray, List.set_cons_zero, List.set_cons_succ]
  refine takeL 7 (v := ?_) rfl (by kernel_rfl) (by kernel_rfl) (by kernel_rfl) (fun _ _ _ h => h) (by rfl) ?_ (by assumption) ?_
  case' refine_2 => (intro w hSw; (try dsimp only at hSw); have y0 := (SB1.out.below hSw).c0; have y1 := (SB1.out.below hSw).c1; have y2 := (SB1.out.below hSw).c2; go_simp; try with_reducible rfl)
  try simp only [Act.put, List.setIfInBounds_toArray, List.set_cons_zero, List.set_cons_succ]
  refine takeL 10 (v := ?_) rfl (by kernel_rfl) (by kernel_rfl) (by kernel_rfl) (fun _ _ _ h => h) (by rfl) ?_ (by assumption) ?_
  case' refine_2 => (intro w hSw; (try dsimp only at hSw); have y0 := (SB1.out.below hSw).c0; have y1 := (SB1.out.below hSw).c1; have y2 := (SB1.out.below hSw).c2; go_simp; try with_reducible rfl)
  try simp only [Act.put, List.setIfInBounds_toArray, List.set_cons_zero, List.set_cons_succ]
  refine takeL 11 (v := .bool (k == k' && (m == m' && t.toList == t'.toList))) rfl (by kernel_rfl) (by kernel_rfl) (by kernel_rfl) (fun _ _ _ h => h) (by rfl) ?_ (by assumption) ?_
  · intro w hSw
    clear hSw
    go_simp
    by_cases qa : k = k' <;> by_cases qb : m = m' <;> by_cases qc : t.toList = t'.toList <;> simp [qa, qb, qc]
  try simp only [Act.put, List.setIfInBounds_toArray, List.set_cons_zero, List.set_cons_succ]
  refine soloL 8 rfl (by kernel_rfl) (fun K hK => ?_)
  go_simp
  go_at_call 62
  refine (VSame_any k m t k' m' t' _).mono ?_
  rintro e wN ⟨rfl, hb⟩
  have hS := below_then hHeld hb
  clear hb
  go_wp2_with fail
  refine hK.out _ _ hS (fun hHeld => ?_)
  clear hK K
  clear hS
  refine takeL 12 (v := ?_) rfl (by kernel_rfl) (by kernel_rfl) (by kernel_rfl) (fun _ _ _ h => h) (by rfl) ?_ (by assumption) ?_
  case' refine_2 => (intro w hSw; (try dsimp only at hSw); go_simp; try with_reducible rfl)
  try simp only [Act.put, List.setIfInBounds_toArray, List.set_cons_zero, List.set_cons_succ]
  refine takeL 13 (v := ?_) rfl (by kernel_rfl) (by kernel_rfl) (by kernel_rfl) (fun _ _ _ h => h) (by rfl) ?_ (by assumption) ?_
  case' refine_2 => (intro w hSw; (try dsimp only at hSw); go_simp; try with_reducible rfl)
  try simp only [Act.put, List.setIfInBounds_toArray, List.set_cons_zero, List.set_cons_succ]
  refine takeL 14 (v := ?_) rfl (by kernel_rfl) (by kernel_rfl) (by kernel_rfl) (fun _ _ _ h => h) (by rfl) ?_ (by assumption) ?_
  case' refine_2 => (intro w hSw; (try dsimp only at hSw); go_simp; try with_reducible rfl)
  try simp only [Act.put, List.setIfInBounds_toArray, List.set_cons_zero, List.set_cons_succ]
  refine takeL 15 (v := ?_) rfl (by kernel_rfl) (by kernel_rfl) (by kernel_rfl) (fun _ _ _ h => h) (by rfl) ?_ (by assumption) ?_
  case' refine_2 => (intro w hSw; (try dsimp only at hSw); have y0 := (SA1.out.below hSw).c0; have y1 := (SA1.out.below hSw).c1; have y2 := (SA1.out.below hSw).c2; go_simp; try with_reducible rfl)
  try simp only [Act.put, List.setIfInBounds_toArray, List.set_cons_zero, List.set_cons_succ]
  refine takeL 17 (v := ?_) rfl (by kernel_rfl) (by kernel_rfl) (by kernel_rfl) (fun _ _ _ h => h) (by rfl) ?_ (by assumption) ?_
  case' refine_2 => (intro w hSw; (try dsimp only at hSw); have y0 := (SA1.out.below hSw).c0; have y1 := (SA1.out.below hSw).c1; have y2 := (SA1.out.below hSw).c2; go_simp; try with_reducible rfl)
  try simp only [Act.put, List.setIfInBounds_toArray, List.set_cons_zero, List.set_cons_succ]
  refine soloL 16 rfl (by kernel_rfl) (fun K hK => ?_)
  go_simp
  go_at_call 63
  refine (VPrint_any k m t _ ht (P1.out.below hHeld)).mono ?_
  rintro e wN ⟨rfl, hb⟩
  have hS := below_then hHeld hb
  clear hb
  go_wp2_with fail
  refine hK.out _ _ hS (fun hHeld => ?_)
  clear hK K
  clear hS
  refine soloL 18 rfl (by kernel_rfl) (fun K hK => ?_)
  go_simp
  go_at_call 64
  refine (rVPrint_any k m t _ ht).mono ?_
  rintro e wN ⟨rfl, hb⟩
  have hS := below_then hHeld hb
  clear hb
  go_wp2_with fail
  refine hK.out _ _ hS (fun hHeld => ?_)
  clear hK K
  clear hS
  refine takeL 19 (v := ?_) rfl (by kernel_rfl) (by kernel_rfl) (by kernel_rfl) (fun _ _ _ h => h) (by rfl) ?_ (by assumption) ?_
  case' refine_2 => (intro w hSw; (try dsimp only at hSw); go_simp; try with_reducible rfl)
  try simp only [Act.put, List.setIfInBounds_toArray, List.set_cons_zero, List.set_cons_succ]
  refine takeL 20 (v := ?_) rfl (by kernel_rfl) (by kernel_rfl) (by kernel_rfl) (fun _ _ _ h => h) (by rfl) ?_ (by assumption) ?_
  case' refine_2 => (intro w hSw; (try dsimp only at hSw); go_simp; try with_reducible rfl)
  try simp only [Act.put, List.setIfInBounds_toArray, List.set_cons_zero, List.set_cons_succ]
  refine takeL 21 (v := ?_) rfl (by kernel_rfl) (by kernel_rfl) (by kernel_rfl) (fun _ _ _ h => h) (by rfl) ?_ (by assumption) ?_
  case' refine_2 => (intro w hSw; (try dsimp only at hSw); go_simp; try with_reducible rfl)
  try simp only [Act.put, List.setIfInBounds_toArray, List.set_cons_zero, List.set_cons_succ]
  refine takeL 22 (v := ?_) rfl (by kernel_rfl) (by kernel_rfl) (by kernel_rfl) (fun _ _ _ h => h) (by rfl) ?_ (by assumption) ?_
  case' refine_2 => (intro w hSw; (try dsimp only at hSw); go_simp; try with_reducible rfl)
  try simp only [Act.put, List.setIfInBounds_toArray, List.set_cons_zero, List.set_cons_succ]
  refine takeL 25 (v := ?_) rfl (by kernel_rfl) (by kernel_rfl) (by kernel_rfl) (fun _ _ _ h => h) (by rfl) ?_ (by assumption) ?_
  case' refine_2 => (intro w hSw; (try dsimp only at hSw); go_simp; try with_reducible rfl)
  try simp only [Act.put, List.setIfInBounds_toArray, List.set_cons_zero, List.set_cons_succ]
  refine takeL 23 (v := ?_) rfl (by kernel_rfl) (by kernel_rfl) (by kernel_rfl) (fun _ _ _ h => h) (by rfl) ?_ (by assumption) ?_
  case' refine_2 => (intro w hSw; (try dsimp only at hSw); have y0 := (SA1.out.below hSw).c0; have y1 := (SA1.out.below hSw).c1; have y2 := (SA1.out.below hSw).c2; go_simp; try with_reducible rfl)
  try simp only [Act.put, List.setIfInBounds_toArray, List.set_cons_zero, List.set_cons_succ]
  refine takeL 26 (v := ?_) rfl (by kernel_rfl) (by kernel_rfl) (by kernel_rfl) (fun _ _ _ h => h) (by rfl) ?_ (by assumption) ?_
  case' refine_2 => (intro w hSw; (try dsimp only at hSw); have y0 := (SA1.out.below hSw).c0; have y1 := (SA1.out.below hSw).c1; have y2 := (SA1.out.below hSw).c2; go_simp; try with_reducible rfl)
  try simp only [Act.put, List.setIfInBounds_toArray, List.set_cons_zero, List.set_cons_succ]
  refine soloL 24 rfl (by kernel_rfl) (fun K hK => ?_)
  go_simp
  go_at_call 65
  refine (VRight8_any p k m t _ ht).mono ?_
  rintro e wN ⟨rfl, hb⟩
  have hS := below_then hHeld hb
  clear hb
  go_wp2_with fail
  refine hK.out _ _ hS (fun hHeld => ?_)
  clear hK K
  clear hS
  refine soloL 27 rfl (by kernel_rfl) (fun K hK => ?_)
  go_simp
  go_at_call 66
  refine (rVRight8_any p k m t _ ht).mono ?_
  rintro e wN ⟨rfl, hb⟩
  have hS := below_then hHeld hb
  clear hb
  go_wp2_with fail
  refine hK.out _ _ hS (fun hHeld => ?_)
  clear hK K
  clear hS
  refine takeL 28 (v := ?_) rfl (by kernel_rfl) (by kernel_rfl) (by kernel_rfl) (fun _ _ _ h => h) (by rfl) ?_ (by assumption) ?_
  case' refine_2 => (intro w hSw; (try dsimp only at hSw); go_simp; try with_reducible rfl)
  try simp only [Act.put, List.setIfInBounds_toArray, List.set_cons_zero, List.set_cons_succ]
  refine takeL 29 (v := ?_) rfl (by kernel_rfl) (by kernel_rfl) (by kernel_rfl) (fun _ _ _ h => h) (by rfl) ?_ (by assumption) ?_
  case' refine_2 => (intro w hSw; (try dsimp only at hSw); go_simp; try with_reducible rfl)
  try simp only [Act.put, List.setIfInBounds_toArray, List.set_cons_zero, List.set_cons_succ]
  refine takeL 30 (v := ?_) rfl (by kernel_rfl) (by kernel_rfl) (by kernel_rfl) (fun _ _ _ h => h) (by rfl) ?_ (by assumption) ?_
  case' refine_2 => (intro w hSw; (try dsimp only at hSw); go_simp; try with_reducible rfl)
  try simp only [Act.put, List.setIfInBounds_toArray, List.set_cons_zero, List.set_cons_succ]
  refine soloL 31 rfl (by kernel_rfl) (fun K hK => ?_)
  go_simp
  go_at_call 28
  refine (knows3_any _).mono ?_
  rintro e wN ⟨rfl, hb⟩
  have hS := below_then hHeld hb
  clear hb
  go_wp2_with fail
  refine hK.out _ _ hS (fun hHeld => ?_)
  clear hK K
  clear hS
  refine takeL 32 (v := ?_) rfl (by kernel_rfl) (by kernel_rfl) (by kernel_rfl) (fun _ _ _ h => h) (by rfl) ?_ (by assumption) ?_
  case' refine_2 => (intro w hSw; (try dsimp only at hSw); go_simp; try with_reducible rfl)
  try simp only [Act.put, List.setIfInBounds_toArray, List.set_cons_zero, List.set_cons_succ]
  refine takeL 33 (v := ?_) rfl (by kernel_rfl) (by kernel_rfl) (by kernel_rfl) (fun _ _ _ h => h) (by rfl) ?_ (by assumption) ?_
  case' refine_2 => (intro w hSw; (try dsimp only at hSw); go_simp; try with_reducible rfl)
  try simp only [Act.put, List.setIfInBounds_toArray, List.set_cons_zero, List.set_cons_succ]
  refine wpAnyH_done (by kernel_rfl) ?_ _
  have HF := hid (below_then H1.out hHeld)
  clear hHeld
  go_wp2_with fail
  go_ret
  exact ⟨rfl, HF.out⟩
end Go.Proofs.YtdbghnfmhgjkaaaDoor
