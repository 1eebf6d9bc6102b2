/- StampForms: the walk, of a stamp that may not be. -/
import Derived.Test.YtdbghnfmhgjkaaaDoorStW
namespace Go.Proofs.YtdbghnfmhgjkaaaDoor
open Go.RowKit Go.Dio
set_option linter.unusedVariables false
set_option linter.unusedSimpArgs false

set_option maxRecDepth 100000 in
set_option maxHeartbeats 8000000 in
theorem StampForms_no (ta ra tb rb_ : Int) (A2 : Option Addr) (n2 c2 : Nat) (l : List (Int × Int)) (A : Option Addr) (n c : Nat) (xs : List UInt8) (s : ByteArray) (w : World)
    (hta : I64 ta) (hra : I64 ra) (hl : IsSt w A2 n2 c2 l) (hl2 : n2 * 16 ≤ 140737488351232) (h : IsB w A n c xs) (hn : n ≤ 140737488351232) (hs : s.size ≤ 140737488351232) (hp : PowTab w) (he : ErrsAt w) (hr : sright ta ra = false) :
    Calls Tryd.prog 12 #[stv ta ra, stv tb rb_, .slice A2 n2 c2, .slice A n c, .string s] w fun e w' => e = .returned (.bool true) ∧ Below w.heap.size w w' := by
  have hc := h.cap; have hm := h.max
  have hlen := h.len
  have hlc := hl.cap; have hlm := hl.max
  have HLN := hid hl.len
  have H0 := hid (below_alloc2 w (so ta ra) (so tb rb_))
  have SA0 := hid ((SAt.new w ta ra _ rfl).below (below_alloc1 _ (so tb rb_)))
  have SB0 := hid (SAt.new (w.alloc (so ta ra)) tb rb_ (w.heap.size + 1) (by simp))
  have I0 := hid (h.below H0.out)
  have L0 := hid (hl.below H0.out)
  have P0 := hid (hp.below H0.out)
  have E0 := hid (he.below H0.out)
  have HTA := hid hta; have HRA := hid hra; have HR := hid hr
  clear h hl hp he hta hra hr
  go_enter Tryd.func12, Tryd.ntmps12
  go_wp2_with fail
  refine (Lent_any A n c xs _ I0.out (by omega)).mono ?_
  rintro e w1 ⟨g, cap, rfl, hL, hb⟩
  have H1 := hid (below_then H0.out hb)
  have SA1 := hid (SA0.out.below hb)
  have SB1 := hid (SB0.out.below hb)
  have I1 := hid (I0.out.below hb)
  have L1 := hid (L0.out.below hb)
  have P1 := hid (P0.out.below hb)
  have E1 := hid (E0.out.below hb)
  have LB1 := hid hL
  have J1 := hid hL.isB.1
  have glt := hL.isB.2.1
  clear hb hL I0 L0 P0 E0 SA0 SB0
  rw [hlen] at J1 ⊢
  go_wp2_with fail
  refine (Open_any (some ⟨g, 0, none⟩) n cap xs _ J1.out (by omega)).mono ?_
  rintro e w2 ⟨rb, rfl, hrd, hb⟩
  have B2 := hid hb
  have R2 := hid hrd
  have rlo := hrd.lo
  have rlt := hrd.lt
  clear hb hrd
  go_wp2_with fail
  refine (dOpen_any A n c xs _ (I1.out.below B2.out) (by omega)).mono ?_
  rintro e w3 ⟨qb, rfl, hrd, hb⟩
  have B3 := hid (below_then B2.out hb)
  have R3 := hid (R2.out.below hb)
  have Q3 := hid hrd
  have qlo := hrd.lo
  clear hb hrd R2 B2
  have c0 := (SA1.out.below B3.out).c0; have c1 := (SA1.out.below B3.out).c1
  go_wp2_with fail
  refine (SPut_no ta ra _ HR.out).mono ?_
  rintro e w4 ⟨rfl, hb⟩
  have I4 := hid (IsB.nil w4)
  have B4 := hid (below_then B3.out hb)
  have R4 := hid (R3.out.below hb)
  have Q4 := hid (Q3.out.below hb)
  clear hb c0 c1 R3 Q3 B3
  have c0 := (SA1.out.below B4.out).c0; have c1 := (SA1.out.below B4.out).c1
  go_wp2_with fail
  refine (rPut2_no ta ra _ HR.out).mono ?_
  rintro e w5 ⟨rfl, hb⟩
  have I5 := hid (IsB.nil w5)
  have B5 := hid (below_then B4.out hb)
  have R5 := hid (R4.out.below hb)
  have Q5 := hid (Q4.out.below hb)
  have J5 := hid (I4.out.below hb)
  clear hb c0 c1 R4 Q4 B4 I4
  go_wp2_with fail
  refine (SParse_any s _ (by omega) (P1.out.below B5.out) (E1.out.below B5.out)).mono ?_
  have hrs := (SParse_any s w5 (by omega) (P1.out.below B5.out) (E1.out.below B5.out))
  clear hrs
  generalize hq : rSP s.data.toList = q
  have HQ := hid hq
  clear hq
  obtain ⟨⟨z1, z2⟩, zb⟩ := q
  dsimp only
  rintro e w6 ⟨rfl, hb⟩
  have N6 := hid (below_new hb (so z1 z2))
  have B6 := hid (below_then B5.out N6.out)
  have R6 := hid (R5.out.below N6.out)
  have Q6 := hid (Q5.out.below N6.out)
  have I6 := hid (I5.out.below N6.out)
  have J6 := hid (J5.out.below N6.out)
  have X6 := hid (SAt.new w6 z1 z2 _ rfl)
  clear hb R5 Q5 B5 I5 J5 N6
  go_wp2_with fail
  refine (rParse2_any s _ (by omega)).mono ?_
  rw [HQ.out]
  dsimp only
  rintro e w7 ⟨rfl, hb⟩
  have N7 := hid (below_new hb (so z1 z2))
  have B7 := hid (below_then B6.out N7.out)
  have R7 := hid (R6.out.below N7.out)
  have Q7 := hid (Q6.out.below N7.out)
  have I7 := hid (I6.out.below N7.out)
  have J7 := hid (J6.out.below N7.out)
  have X7 := hid (X6.out.below N7.out)
  have Y7 := hid (SAt.new w7 z1 z2 _ rfl)
  clear hb R6 Q6 B6 I6 J6 N7 X6
  go_wp2_with fail
  generalize hV : w7.alloc (so z1 z2) = V at *
  clear hV
  generalize w7.heap.size = p7 at *
  generalize w6.heap.size = p6 at *
  have SA7 := hid (SA1.out.below B7.out)
  have hHeld0 : Below V.heap.size V V.drew := (Below.refl _ _).drew
  refine wp_region_held_drew (S := fun w' => Below V.heap.size V w') (by kernel_rfl) (by exact hHeld0) (fun hHeld => ?_)
  clear hHeld0
  refine takeL 0 (v := ?_) rfl (by kernel_rfl) (by kernel_rfl) (by kernel_rfl) (fun _ _ _ h => h) (by rfl) ?_ (by assumption) ?_
  case' refine_2 => (intro w hSw; (try dsimp only at hSw); go_simp; try with_reducible rfl)
  try simp only [Act.put, List.setIfInBounds_toArray, List.set_cons_zero, List.set_cons_succ]
  refine takeL 1 (v := ?_) rfl (by kernel_rfl) (by kernel_rfl) (by kernel_rfl) (fun _ _ _ h => h) (by rfl) ?_ (by assumption) ?_
  case' refine_2 => (intro w hSw; (try dsimp only at hSw); have y0 := run_string (P := Tryd.prog) 55 9 5 Tryd.underlying55 Tryd.underlying5 Tryd.underlying9 (J7.out.below hSw); go_simp; try with_reducible rfl)
  try simp only [Act.put, List.setIfInBounds_toArray, List.set_cons_zero, List.set_cons_succ]
  refine takeL 2 (v := ?_) rfl (by kernel_rfl) (by kernel_rfl) (by kernel_rfl) (fun _ _ _ h => h) (by rfl) ?_ (by assumption) ?_
  case' refine_2 => (intro w hSw; (try dsimp only at hSw); go_simp; try with_reducible rfl)
  try simp only [Act.put, List.setIfInBounds_toArray, List.set_cons_zero, List.set_cons_succ]
  refine takeL 3 (v := ?_) rfl (by kernel_rfl) (by kernel_rfl) (by kernel_rfl) (fun _ _ _ h => h) (by rfl) ?_ (by assumption) ?_
  case' refine_2 => (intro w hSw; (try dsimp only at hSw); have y0 := run_string (P := Tryd.prog) 55 9 5 Tryd.underlying55 Tryd.underlying5 Tryd.underlying9 (I7.out.below hSw); go_simp; try with_reducible rfl)
  try simp only [Act.put, List.setIfInBounds_toArray, List.set_cons_zero, List.set_cons_succ]
  refine takeL 4 (v := ?_) rfl (by kernel_rfl) (by kernel_rfl) (by kernel_rfl) (fun _ _ _ h => h) (by rfl) ?_ (by assumption) ?_
  case' refine_2 => (intro w hSw; (try dsimp only at hSw); go_simp; try with_reducible rfl)
  try simp only [Act.put, List.setIfInBounds_toArray, List.set_cons_zero, List.set_cons_succ]
  refine takeL 5 (v := ?_) rfl (by kernel_rfl) (by kernel_rfl) (by kernel_rfl) (fun _ _ _ h => h) (by rfl) ?_ (by assumption) ?_
  case' refine_2 => (intro w hSw; (try dsimp only at hSw); go_simp; try with_reducible rfl)
  try simp only [Act.put, List.setIfInBounds_toArray, List.set_cons_zero, List.set_cons_succ]
  refine takeL 6 (v := ?_) rfl (by kernel_rfl) (by kernel_rfl) (by kernel_rfl) (fun _ _ _ h => h) (by rfl) ?_ (by assumption) ?_
  case' refine_2 => (intro w hSw; (try dsimp only at hSw); go_simp; try with_reducible rfl)
  try simp only [Act.put, List.setIfInBounds_toArray, List.set_cons_zero, List.set_cons_succ]
  refine takeL 9 (v := ?_) rfl (by kernel_rfl) (by kernel_rfl) (by kernel_rfl) (fun _ _ _ h => h) (by rfl) ?_ (by assumption) ?_
  case' refine_2 => (intro w hSw; (try dsimp only at hSw); have y0 := (SA7.out.below hSw).c0; have y1 := (SA7.out.below hSw).c1; go_simp; try with_reducible rfl)
  try simp only [Act.put, List.setIfInBounds_toArray, List.set_cons_zero, List.set_cons_succ]
  refine soloL 7 rfl (by kernel_rfl) (fun K hK => ?_)
  go_simp
  go_at_call 17
  refine (num2_any 1 _).mono ?_
  rintro e wN ⟨rfl, rfl⟩
  go_wp2_with fail
  refine hK.out _ _ hHeld (fun hHeld => ?_)
  clear hK K
  refine takeL 8 (v := ?_) rfl (by kernel_rfl) (by kernel_rfl) (by kernel_rfl) (fun _ _ _ h => h) (by rfl) ?_ (by assumption) ?_
  case' refine_2 => (intro w hSw; (try dsimp only at hSw); go_simp; try with_reducible rfl)
  try simp only [Act.put, List.setIfInBounds_toArray, List.set_cons_zero, List.set_cons_succ]
  refine soloL 10 rfl (by kernel_rfl) (fun K hK => ?_)
  go_simp
  go_at_call 44
  refine (rRight2_any ta ra _).mono ?_
  rw [HR.out]
  rintro e wN ⟨rfl, hb⟩
  have hS := below_then hHeld hb
  clear hb
  go_wp2_with fail
  refine hK.out _ _ hS (fun hHeld => ?_)
  clear hK K
  clear hS
  refine takeL 11 (v := ?_) rfl (by kernel_rfl) (by kernel_rfl) (by kernel_rfl) (fun _ _ _ h => h) (by rfl) ?_ (by assumption) ?_
  case' refine_2 => (intro w hSw; (try dsimp only at hSw); go_simp; try with_reducible rfl)
  try simp only [Act.put, List.setIfInBounds_toArray, List.set_cons_zero, List.set_cons_succ]
  refine takeL 12 (v := ?_) rfl (by kernel_rfl) (by kernel_rfl) (by kernel_rfl) (fun _ _ _ h => h) (by rfl) ?_ (by assumption) ?_
  case' refine_2 => (intro w hSw; (try dsimp only at hSw); go_simp; try with_reducible rfl)
  try simp only [Act.put, List.setIfInBounds_toArray, List.set_cons_zero, List.set_cons_succ]
  refine takeL 13 (v := ?_) rfl (by kernel_rfl) (by kernel_rfl) (by kernel_rfl) (fun _ _ _ h => h) (by rfl) ?_ (by assumption) ?_
  case' refine_2 => (intro w hSw; (try dsimp only at hSw); go_simp; try with_reducible rfl)
  try simp only [Act.put, List.setIfInBounds_toArray, List.set_cons_zero, List.set_cons_succ]
  refine takeL 14 (v := ?_) rfl (by kernel_rfl) (by kernel_rfl) (by kernel_rfl) (fun _ _ _ h => h) (by rfl) ?_ (by assumption) ?_
  case' refine_2 => (intro w hSw; (try dsimp only at hSw); have y0 := (SA7.out.below hSw).c0; have y1 := (SA7.out.below hSw).c1; go_simp; try with_reducible rfl)
  try simp only [Act.put, List.setIfInBounds_toArray, List.set_cons_zero, List.set_cons_succ]
  refine soloL 15 rfl (by kernel_rfl) (fun K hK => ?_)
  go_simp
  go_at_call 44
  refine (rRight2_any ta ra _).mono ?_
  rw [HR.out]
  rintro e wN ⟨rfl, hb⟩
  have hS := below_then hHeld hb
  clear hb
  go_wp2_with fail
  refine hK.out _ _ hS (fun hHeld => ?_)
  clear hK K
  clear hS
  refine takeL 16 (v := ?_) rfl (by kernel_rfl) (by kernel_rfl) (by kernel_rfl) (fun _ _ _ h => h) (by rfl) ?_ (by assumption) ?_
  case' refine_2 => (intro w hSw; (try dsimp only at hSw); go_simp; try with_reducible rfl)
  try simp only [Act.put, List.setIfInBounds_toArray, List.set_cons_zero, List.set_cons_succ]
  refine takeL 17 (v := ?_) rfl (by kernel_rfl) (by kernel_rfl) (by kernel_rfl) (fun _ _ _ h => h) (by rfl) ?_ (by assumption) ?_
  case' refine_2 => (intro w hSw; (try dsimp only at hSw); go_simp; try with_reducible rfl)
  try simp only [Act.put, List.setIfInBounds_toArray, List.set_cons_zero, List.set_cons_succ]
  refine takeL 18 (v := ?_) rfl (by kernel_rfl) (by kernel_rfl) (by kernel_rfl) (fun _ _ _ h => h) (by rfl) ?_ (by assumption) ?_
  case' refine_2 => (intro w hSw; (try dsimp only at hSw); go_simp; try with_reducible rfl)
  try simp only [Act.put, List.setIfInBounds_toArray, List.set_cons_zero, List.set_cons_succ]
  refine soloL 19 rfl (by kernel_rfl) (fun K hK => ?_)
  go_simp
  go_at_call 17
  refine (num2_any 1 _).mono ?_
  rintro e wN ⟨rfl, rfl⟩
  go_wp2_with fail
  refine hK.out _ _ hHeld (fun hHeld => ?_)
  clear hK K
  refine takeL 20 (v := ?_) rfl (by kernel_rfl) (by kernel_rfl) (by kernel_rfl) (fun _ _ _ h => h) (by rfl) ?_ (by assumption) ?_
  case' refine_2 => (intro w hSw; (try dsimp only at hSw); go_simp; try with_reducible rfl)
  try simp only [Act.put, List.setIfInBounds_toArray, List.set_cons_zero, List.set_cons_succ]
  refine takeL 21 (v := ?_) rfl (by kernel_rfl) (by kernel_rfl) (by kernel_rfl) (fun _ _ _ h => h) (by rfl) ?_ (by assumption) ?_
  case' refine_2 => (intro w hSw; (try dsimp only at hSw); go_simp; try with_reducible rfl)
  try simp only [Act.put, List.setIfInBounds_toArray, List.set_cons_zero, List.set_cons_succ]
  refine takeL 22 (v := ?_) rfl (by kernel_rfl) (by kernel_rfl) (by kernel_rfl) (fun _ _ _ h => h) (by rfl) ?_ (by assumption) ?_
  case' refine_2 => (intro w hSw; (try dsimp only at hSw); go_simp; try with_reducible rfl)
  try simp only [Act.put, List.setIfInBounds_toArray, List.set_cons_zero, List.set_cons_succ]
  refine takeL 23 (v := ?_) rfl (by kernel_rfl) (by kernel_rfl) (by kernel_rfl) (fun _ _ _ h => h) (by rfl) ?_ (by assumption) ?_
  case' refine_2 => (intro w hSw; (try dsimp only at hSw); go_simp; try with_reducible rfl)
  try simp only [Act.put, List.setIfInBounds_toArray, List.set_cons_zero, List.set_cons_succ]
  refine takeL 24 (v := ?_) rfl (by kernel_rfl) (by kernel_rfl) (by kernel_rfl) (fun _ _ _ h => h) (by rfl) ?_ (by assumption) ?_
  case' refine_2 => (intro w hSw; (try dsimp only at hSw); have y0 := (X7.out.below hSw).c0; have y1 := (X7.out.below hSw).c1; have y2 := (Y7.out.below hSw).c0; have y3 := (Y7.out.below hSw).c1; go_simp; try with_reducible rfl)
  try simp only [Act.put, List.setIfInBounds_toArray, List.set_cons_zero, List.set_cons_succ]
  refine takeL 25 (v := ?_) rfl (by kernel_rfl) (by kernel_rfl) (by kernel_rfl) (fun _ _ _ h => h) (by rfl) ?_ (by assumption) ?_
  case' refine_2 => (intro w hSw; (try dsimp only at hSw); have y0 := (X7.out.below hSw).c0; have y1 := (X7.out.below hSw).c1; have y2 := (Y7.out.below hSw).c0; have y3 := (Y7.out.below hSw).c1; go_simp; try with_reducible rfl)
  try simp only [Act.put, List.setIfInBounds_toArray, List.set_cons_zero, List.set_cons_succ]
  refine takeL 26 (v := ?_) rfl (by kernel_rfl) (by kernel_rfl) (by kernel_rfl) (fun _ _ _ h => h) (by rfl) ?_ (by assumption) ?_
  case' refine_2 => (intro w hSw; (try dsimp only at hSw); go_simp; try with_reducible rfl)
  try simp only [Act.put, List.setIfInBounds_toArray, List.set_cons_zero, List.set_cons_succ]
  refine takeL 27 (v := ?_) rfl (by kernel_rfl) (by kernel_rfl) (by kernel_rfl) (fun _ _ _ h => h) (by rfl) ?_ (by assumption) ?_
  case' refine_2 => (intro w hSw; (try dsimp only at hSw); go_simp; try with_reducible rfl)
  try simp only [Act.put, List.setIfInBounds_toArray, List.set_cons_zero, List.set_cons_succ]
  refine takeL 28 (v := ?_) rfl (by kernel_rfl) (by kernel_rfl) (by kernel_rfl) (fun _ _ _ h => h) (by rfl) ?_ (by assumption) ?_
  case' refine_2 => (intro w hSw; (try dsimp only at hSw); go_simp; try with_reducible rfl)
  try simp only [Act.put, List.setIfInBounds_toArray, List.set_cons_zero, List.set_cons_succ]
  refine takeL 29 (v := ?_) rfl (by kernel_rfl) (by kernel_rfl) (by kernel_rfl) (fun _ _ _ h => h) (by rfl) ?_ (by assumption) ?_
  case' refine_2 => (intro w hSw; (try dsimp only at hSw); go_simp; try with_reducible rfl)
  try simp only [Act.put, List.setIfInBounds_toArray, List.set_cons_zero, List.set_cons_succ]
  refine takeL 30 (v := ?_) rfl (by kernel_rfl) (by kernel_rfl) (by kernel_rfl) (fun _ _ _ h => h) (by rfl) ?_ (by assumption) ?_
  case' refine_2 => (intro w hSw; (try dsimp only at hSw); go_simp; try with_reducible rfl)
  try simp only [Act.put, List.setIfInBounds_toArray, List.set_cons_zero, List.set_cons_succ]
  refine takeL 31 (v := ?_) rfl (by kernel_rfl) (by kernel_rfl) (by kernel_rfl) (fun _ _ _ h => h) (by rfl) ?_ (by assumption) ?_
  case' refine_2 => (intro w hSw; (try dsimp only at hSw); go_simp; try with_reducible rfl)
  try simp only [Act.put, List.setIfInBounds_toArray, List.set_cons_zero, List.set_cons_succ]
  refine takeL 32 (v := ?_) rfl (by kernel_rfl) (by kernel_rfl) (by kernel_rfl) (fun _ _ _ h => h) (by rfl) ?_ (by assumption) ?_
  case' refine_2 => (intro w hSw; (try dsimp only at hSw); go_simp; try with_reducible rfl)
  try simp only [Act.put, List.setIfInBounds_toArray, List.set_cons_zero, List.set_cons_succ]
  refine wpAnyH_done (by kernel_rfl) ?_ _
  have B8 := hid (below_then B7.out hHeld)
  have R8 := hid (R7.out.below hHeld)
  have Q8 := hid (Q7.out.below hHeld)
  clear hHeld B7 R7 Q7 X7 Y7 I7 J7 SA7 HQ
  go_wp2_with fail
  have hrq : rb ≠ qb := by omega
  refine (STake_any _ rb _ _ R8.out).mono ?_
  generalize hq : tStamp (xs, 0) = q
  have HQ := hid hq
  clear hq
  obtain ⟨⟨x1, x2⟩, s9⟩ := q
  dsimp only
  rintro e w9 ⟨rfl, hrd, hg⟩
  have B9 := hid (B8.out.grown hg B8.out.size (fun q hq => by cases hq; exact rlo))
  have R9 := hid hrd
  have Q9 := hid (Q8.out.side R8.out hrq hg)
  clear hrd hg R8 Q8 B8
  go_wp2_with fail
  refine (rTake2_any _ qb _ _ Q9.out).mono ?_
  rw [HQ.out]
  dsimp only
  rintro e w10 ⟨rfl, hrd, hg⟩
  have B10 := hid (B9.out.grown hg B9.out.size (fun q hq => by cases hq; omega))
  have R10 := hid (R9.out.side Q9.out hrq hg)
  have Q10 := hid hrd
  clear hrd hg R9 Q9 B9 HQ
  go_wp2_with fail
  refine (Left_r _ rb _ _ R10.out).mono ?_
  rintro e wN ⟨rfl, rfl⟩
  go_wp2_with fail
  refine (dLeft_r _ qb _ _ Q10.out).mono ?_
  rintro e w11 ⟨rfl, hd⟩
  have B11 := hid (below_then B10.out hd.below)
  have R11 := hid (R10.out.below hd.below)
  have Q11 := hid (Q10.out.below hd.below)
  clear hd B10 R10 Q10
  go_wp2_with fail
  refine (Done_r _ rb _ _ R11.out).mono ?_
  rintro e wN ⟨rfl, rfl⟩
  go_wp2_with fail
  refine (num2_any _ _).mono ?_
  rintro e wN ⟨rfl, rfl⟩
  go_wp2_with fail
  refine (dDone_r _ qb _ _ Q11.out).mono ?_
  rintro e w12 ⟨rfl, hd⟩
  have B12 := hid (below_then B11.out hd.below)
  clear hd B11 R11 Q11
  go_wp2_with fail
  refine (Stays_any g cap _ A n c xs _ (I1.out.below B12.out) (show LentB w12 _ g cap xs from OwnB.keep LB1.out B12.out glt) (by omega)).mono ?_
  rintro e w13 ⟨rfl, hd⟩
  have B13 := hid (below_then B12.out hd.below)
  clear hd B12 LB1 J1
  go_wp2_with fail
  have hHeld0 : Below w1.heap.size w1 w13.drew := B13.out.drew
  refine wp_region_held_drew (S := fun w' => Below w1.heap.size w1 w') (by kernel_rfl) (by exact hHeld0) (fun hHeld => ?_)
  clear hHeld0
  refine takeL 0 (v := ?_) rfl (by kernel_rfl) (by kernel_rfl) (by kernel_rfl) (fun _ _ _ h => h) (by rfl) ?_ (by assumption) ?_
  case' refine_2 => (intro w hSw; (try dsimp only at hSw); have y0 := (SA1.out.below hSw).c0; have y1 := (SA1.out.below hSw).c1; go_simp; try with_reducible rfl)
  try simp only [Act.put, List.setIfInBounds_toArray, List.set_cons_zero, List.set_cons_succ]
  refine takeL 2 (v := ?_) rfl (by kernel_rfl) (by kernel_rfl) (by kernel_rfl) (fun _ _ _ h => h) (by rfl) ?_ (by assumption) ?_
  case' refine_2 => (intro w hSw; (try dsimp only at hSw); have y0 := (SA1.out.below hSw).c0; have y1 := (SA1.out.below hSw).c1; go_simp; try with_reducible rfl)
  try simp only [Act.put, List.setIfInBounds_toArray, List.set_cons_zero, List.set_cons_succ]
  refine soloL 1 rfl (by kernel_rfl) (fun K hK => ?_)
  go_simp
  go_at_call 36
  refine (Right2_any ta ra _).mono ?_
  rw [HR.out]
  rintro e wN ⟨rfl, hb⟩
  have hS := below_then hHeld hb
  clear hb
  go_wp2_with fail
  refine hK.out _ _ hS (fun hHeld => ?_)
  clear hK K
  clear hS
  refine soloL 3 rfl (by kernel_rfl) (fun K hK => ?_)
  go_simp
  go_at_call 44
  refine (rRight2_any ta ra _).mono ?_
  rw [HR.out]
  rintro e wN ⟨rfl, hb⟩
  have hS := below_then hHeld hb
  clear hb
  go_wp2_with fail
  refine hK.out _ _ hS (fun hHeld => ?_)
  clear hK K
  clear hS
  refine takeL 4 (v := ?_) rfl (by kernel_rfl) (by kernel_rfl) (by kernel_rfl) (fun _ _ _ h => h) (by rfl) ?_ (by assumption) ?_
  case' refine_2 => (intro w hSw; (try dsimp only at hSw); go_simp; try with_reducible rfl)
  try simp only [Act.put, List.setIfInBounds_toArray, List.set_cons_zero, List.set_cons_succ]
  refine takeL 5 (v := ?_) rfl (by kernel_rfl) (by kernel_rfl) (by kernel_rfl) (fun _ _ _ h => h) (by rfl) ?_ (by assumption) ?_
  case' refine_2 => (intro w hSw; (try dsimp only at hSw); go_simp; try with_reducible rfl)
  try simp only [Act.put, List.setIfInBounds_toArray, List.set_cons_zero, List.set_cons_succ]
  refine takeL 6 (v := ?_) rfl (by kernel_rfl) (by kernel_rfl) (by kernel_rfl) (fun _ _ _ h => h) (by rfl) ?_ (by assumption) ?_
  case' refine_2 => (intro w hSw; (try dsimp only at hSw); have y0 := (SA1.out.below hSw).c0; have y1 := (SA1.out.below hSw).c1; go_simp; try with_reducible rfl)
  try simp only [Act.put, List.setIfInBounds_toArray, List.set_cons_zero, List.set_cons_succ]
  refine takeL 9 (v := ?_) rfl (by kernel_rfl) (by kernel_rfl) (by kernel_rfl) (fun _ _ _ h => h) (by rfl) ?_ (by assumption) ?_
  case' refine_2 => (intro w hSw; (try dsimp only at hSw); have y0 := (SA1.out.below hSw).c0; have y1 := (SA1.out.below hSw).c1; go_simp; try with_reducible rfl)
  try simp only [Act.put, List.setIfInBounds_toArray, List.set_cons_zero, List.set_cons_succ]
  refine takeL 7 (v := ?_) rfl (by kernel_rfl) (by kernel_rfl) (by kernel_rfl) (fun _ _ _ h => h) (by rfl) ?_ (by assumption) ?_
  case' refine_2 => (intro w hSw; (try dsimp only at hSw); have y0 := (SB1.out.below hSw).c0; have y1 := (SB1.out.below hSw).c1; go_simp; try with_reducible rfl)
  try simp only [Act.put, List.setIfInBounds_toArray, List.set_cons_zero, List.set_cons_succ]
  refine takeL 10 (v := ?_) rfl (by kernel_rfl) (by kernel_rfl) (by kernel_rfl) (fun _ _ _ h => h) (by rfl) ?_ (by assumption) ?_
  case' refine_2 => (intro w hSw; (try dsimp only at hSw); have y0 := (SB1.out.below hSw).c0; have y1 := (SB1.out.below hSw).c1; go_simp; try with_reducible rfl)
  try simp only [Act.put, List.setIfInBounds_toArray, List.set_cons_zero, List.set_cons_succ]
  refine soloL 8 rfl (by kernel_rfl) (fun K hK => ?_)
  go_simp
  go_at_call 23
  refine (Compare_any ta ra tb rb_ _).mono ?_
  rintro e wN ⟨rfl, hb⟩
  have hS := below_then hHeld hb
  clear hb
  go_wp2_with fail
  refine hK.out _ _ hS (fun hHeld => ?_)
  clear hK K
  clear hS
  refine soloL 11 rfl (by kernel_rfl) (fun K hK => ?_)
  go_simp
  go_at_call 50
  refine (rCompare2_any ta ra tb rb_ _).mono ?_
  rintro e wN ⟨rfl, hb⟩
  have hS := below_then hHeld hb
  clear hb
  go_wp2_with fail
  refine hK.out _ _ hS (fun hHeld => ?_)
  clear hK K
  clear hS
  refine takeL 12 (v := ?_) rfl (by kernel_rfl) (by kernel_rfl) (by kernel_rfl) (fun _ _ _ h => h) (by rfl) ?_ (by assumption) ?_
  case' refine_2 => (intro w hSw; (try dsimp only at hSw); go_simp; try with_reducible rfl)
  try simp only [Act.put, List.setIfInBounds_toArray, List.set_cons_zero, List.set_cons_succ]
  refine takeL 13 (v := ?_) rfl (by kernel_rfl) (by kernel_rfl) (by kernel_rfl) (fun _ _ _ h => h) (by rfl) ?_ (by assumption) ?_
  case' refine_2 => (intro w hSw; (try dsimp only at hSw); go_simp; try with_reducible rfl)
  try simp only [Act.put, List.setIfInBounds_toArray, List.set_cons_zero, List.set_cons_succ]
  refine takeL 14 (v := ?_) rfl (by kernel_rfl) (by kernel_rfl) (by kernel_rfl) (fun _ _ _ h => h) (by rfl) ?_ (by assumption) ?_
  case' refine_2 => (intro w hSw; (try dsimp only at hSw); go_simp; try with_reducible rfl)
  try simp only [Act.put, List.setIfInBounds_toArray, List.set_cons_zero, List.set_cons_succ]
  refine takeL 16 (v := ?_) rfl (by kernel_rfl) (by kernel_rfl) (by kernel_rfl) (fun _ _ _ h => h) (by rfl) ?_ (by assumption) ?_
  case' refine_2 => (intro w hSw; (try dsimp only at hSw); go_simp; try with_reducible rfl)
  try simp only [Act.put, List.setIfInBounds_toArray, List.set_cons_zero, List.set_cons_succ]
  refine takeL 19 (v := ?_) rfl (by kernel_rfl) (by kernel_rfl) (by kernel_rfl) (fun _ _ _ h => h) (by rfl) ?_ (by assumption) ?_
  case' refine_2 => (intro w hSw; (try dsimp only at hSw); go_simp; try with_reducible rfl)
  try simp only [Act.put, List.setIfInBounds_toArray, List.set_cons_zero, List.set_cons_succ]
  refine soloL 15 rfl (by kernel_rfl) (fun K hK => ?_)
  go_simp
  have hS := hHeld.alloc hHeld.size (.cells #[] 33)
  refine hK.out _ _ hS (fun hHeld2 => ?_)
  clear hK K hS hHeld2
  refine soloL 17 rfl (by kernel_rfl) (fun K hK => ?_)
  rw [if_pos (by kernel_rfl)]
  refine wp_append w1.heap.size _ _ 66 33 (.agg #[.int .i64 0, .int .i64 0]) 2 16 rfl Tryd.underlying66 info_st rfl (by omega) (by omega) _ 0 n2 [] (sv l) A2 c2 rfl rfl (st_lit _ w1.heap.size hHeld.size) ((L1.out.below (hHeld.alloc hHeld.size (.cells #[] 33))).cells) (by rw [sv_length, HLN.out]) (sv_one l) (hHeld.alloc hHeld.size (.cells #[] 33)).size (by omega) ?_
  intro v14 w14 ho14 hg14 hat14
  have hS := (hHeld.alloc hHeld.size (.cells #[] 33)).grown hg14 (hHeld.alloc hHeld.size (.cells #[] 33)).size (fun q hq => by have := owns_base (st_lit _ w1.heap.size hHeld.size) q hq; exact this)
  clear hg14 hat14
  obtain ⟨A14, c14, rfl, hn14, hc14, hC14, -⟩ := owns_form ho14
  rw [Nat.zero_add] at hn14 ⊢
  rw [List.nil_append] at hC14
  have L14 := hid (show IsSt w14 A14 n2 c14 l from ⟨HLN.out, hn14, hc14, hC14⟩)
  clear ho14 hC14
  refine hK.out _ _ hS (fun hHeld => ?_)
  clear hK K hS
  refine soloL 18 rfl (by kernel_rfl) (fun K hK => ?_)
  go_simp
  go_at_call 24
  refine (Max_all A14 n2 c14 l _ L14.out).mono ?_
  rintro e wN ⟨rfl, hb⟩
  have hS := below_then hHeld hb
  clear hb
  go_wp2_with fail
  refine hK.out _ _ hS (fun hHeld => ?_)
  clear hK K
  clear hS
  refine soloL 20 rfl (by kernel_rfl) (fun K hK => ?_)
  go_simp
  go_at_call 51
  refine (rMax_all A2 n2 c2 l _ (L1.out.below hHeld)).mono ?_
  rintro e wN ⟨rfl, hb⟩
  have hS := below_then hHeld hb
  clear hb
  go_wp2_with fail
  refine hK.out _ _ hS (fun hHeld => ?_)
  clear hK K
  clear hS
  refine takeL 21 (v := ?_) rfl (by kernel_rfl) (by kernel_rfl) (by kernel_rfl) (fun _ _ _ h => h) (by rfl) ?_ (by assumption) ?_
  case' refine_2 => (intro w hSw; (try dsimp only at hSw); go_simp; try with_reducible rfl)
  try simp only [Act.put, List.setIfInBounds_toArray, List.set_cons_zero, List.set_cons_succ]
  refine takeL 22 (v := ?_) rfl (by kernel_rfl) (by kernel_rfl) (by kernel_rfl) (fun _ _ _ h => h) (by rfl) ?_ (by assumption) ?_
  case' refine_2 => (intro w hSw; (try dsimp only at hSw); go_simp; try with_reducible rfl)
  try simp only [Act.put, List.setIfInBounds_toArray, List.set_cons_zero, List.set_cons_succ]
  refine takeL 23 (v := ?_) rfl (by kernel_rfl) (by kernel_rfl) (by kernel_rfl) (fun _ _ _ h => h) (by rfl) ?_ (by assumption) ?_
  case' refine_2 => (intro w hSw; (try dsimp only at hSw); go_simp; try with_reducible rfl)
  try simp only [Act.put, List.setIfInBounds_toArray, List.set_cons_zero, List.set_cons_succ]
  refine takeL 24 (v := ?_) rfl (by kernel_rfl) (by kernel_rfl) (by kernel_rfl) (fun _ _ _ h => h) (by rfl) ?_ (by assumption) ?_
  case' refine_2 => (intro w hSw; (try dsimp only at hSw); have y0 := (SA1.out.below hSw).c0; have y1 := (SA1.out.below hSw).c1; go_simp; try with_reducible rfl)
  try simp only [Act.put, List.setIfInBounds_toArray, List.set_cons_zero, List.set_cons_succ]
  refine takeL 26 (v := ?_) rfl (by kernel_rfl) (by kernel_rfl) (by kernel_rfl) (fun _ _ _ h => h) (by rfl) ?_ (by assumption) ?_
  case' refine_2 => (intro w hSw; (try dsimp only at hSw); have y0 := (SA1.out.below hSw).c0; have y1 := (SA1.out.below hSw).c1; go_simp; try with_reducible rfl)
  try simp only [Act.put, List.setIfInBounds_toArray, List.set_cons_zero, List.set_cons_succ]
  refine soloL 25 rfl (by kernel_rfl) (fun K hK => ?_)
  go_simp
  go_at_call 35
  refine (SPrint_any ta ra _ HTA.out HRA.out (P1.out.below hHeld)).mono ?_
  rintro e wN ⟨rfl, hb⟩
  have hS := below_then hHeld hb
  clear hb
  go_wp2_with fail
  refine hK.out _ _ hS (fun hHeld => ?_)
  clear hK K
  clear hS
  refine soloL 27 rfl (by kernel_rfl) (fun K hK => ?_)
  go_simp
  go_at_call 52
  refine (rPrint2_any ta ra _ HTA.out HRA.out).mono ?_
  rintro e wN ⟨rfl, hb⟩
  have hS := below_then hHeld hb
  clear hb
  go_wp2_with fail
  refine hK.out _ _ hS (fun hHeld => ?_)
  clear hK K
  clear hS
  refine takeL 28 (v := ?_) rfl (by kernel_rfl) (by kernel_rfl) (by kernel_rfl) (fun _ _ _ h => h) (by rfl) ?_ (by assumption) ?_
  case' refine_2 => (intro w hSw; (try dsimp only at hSw); go_simp; try with_reducible rfl)
  try simp only [Act.put, List.setIfInBounds_toArray, List.set_cons_zero, List.set_cons_succ]
  refine takeL 29 (v := ?_) rfl (by kernel_rfl) (by kernel_rfl) (by kernel_rfl) (fun _ _ _ h => h) (by rfl) ?_ (by assumption) ?_
  case' refine_2 => (intro w hSw; (try dsimp only at hSw); go_simp; try with_reducible rfl)
  try simp only [Act.put, List.setIfInBounds_toArray, List.set_cons_zero, List.set_cons_succ]
  refine takeL 30 (v := ?_) rfl (by kernel_rfl) (by kernel_rfl) (by kernel_rfl) (fun _ _ _ h => h) (by rfl) ?_ (by assumption) ?_
  case' refine_2 => (intro w hSw; (try dsimp only at hSw); go_simp; try with_reducible rfl)
  try simp only [Act.put, List.setIfInBounds_toArray, List.set_cons_zero, List.set_cons_succ]
  refine soloL 31 rfl (by kernel_rfl) (fun K hK => ?_)
  go_simp
  go_at_call 18
  refine (knows2_any _).mono ?_
  rintro e wN ⟨rfl, hb⟩
  have hS := below_then hHeld hb
  clear hb
  go_wp2_with fail
  refine hK.out _ _ hS (fun hHeld => ?_)
  clear hK K
  clear hS
  refine takeL 32 (v := ?_) rfl (by kernel_rfl) (by kernel_rfl) (by kernel_rfl) (fun _ _ _ h => h) (by rfl) ?_ (by assumption) ?_
  case' refine_2 => (intro w hSw; (try dsimp only at hSw); go_simp; try with_reducible rfl)
  try simp only [Act.put, List.setIfInBounds_toArray, List.set_cons_zero, List.set_cons_succ]
  refine takeL 33 (v := ?_) rfl (by kernel_rfl) (by kernel_rfl) (by kernel_rfl) (fun _ _ _ h => h) (by rfl) ?_ (by assumption) ?_
  case' refine_2 => (intro w hSw; (try dsimp only at hSw); go_simp; try with_reducible rfl)
  try simp only [Act.put, List.setIfInBounds_toArray, List.set_cons_zero, List.set_cons_succ]
  refine wpAnyH_done (by kernel_rfl) ?_ _
  have HF := hid (below_then H1.out hHeld)
  clear hHeld
  go_wp2_with fail
  go_ret
  exact ⟨rfl, HF.out⟩
end Go.Proofs.YtdbghnfmhgjkaaaDoor
