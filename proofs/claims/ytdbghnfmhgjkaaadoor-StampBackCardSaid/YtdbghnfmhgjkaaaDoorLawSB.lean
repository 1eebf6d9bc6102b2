/- StampBack: the walk. -/
import Derived.Test.YtdbghnfmhgjkaaaDoorStP
import Derived.Test.YtdbghnfmhgjkaaaDoorStC
import Derived.Test.YtdbghnfmhgjkaaaDoorShS
namespace Go.Proofs.YtdbghnfmhgjkaaaDoor
open Go.RowKit Go.Dio
set_option linter.unusedVariables false
set_option linter.unusedSimpArgs false

theorem SAt.of2 {w : World} {b : Nat} {t r : Int} (h : SAt w b t r) : SAt w b t r := h
theorem rDone_nil : rDone ([], 0) = 0 := rfl

set_option maxRecDepth 100000 in
set_option maxHeartbeats 1000000 in
theorem StampBack_no (t r : Int) (w : World) (ht : I64 t) (hr : I64 r) (hp : PowTab w) (hs : sright t r = false) :
    Calls Tryd.prog 11 #[stv t r] w fun e w' => e = .returned (.bool true) ∧ Below w.heap.size w w' := by
  have S0 := hid (SAt.new w t r _ rfl)
  have H0 := hid (below_alloc1 w (so t r))
  have P0 := hid (hp.below (below_alloc1 w (so t r)))
  have HT := hid ht; have HR := hid hr; have HS := hid hs
  clear hp ht hr hs
  go_enter Tryd.func11, Tryd.ntmps11
  go_wp2_with fail
  refine (SPut_no t r _ HS.out).mono ?_
  rintro e w1 ⟨rfl, hb⟩
  have H1 := hid (below_then H0.out hb)
  have S1 := hid (S0.out.below hb)
  have P1 := hid (P0.out.below hb)
  clear hb
  have c0 := S1.out.c0; have c1 := S1.out.c1
  go_wp2_with fail
  refine (SPrint_any t r _ HT.out HR.out P1.out).mono ?_
  rintro e w2 ⟨rfl, hb⟩
  have H2 := hid (below_then H1.out hb)
  have S2 := hid (S1.out.below hb)
  have P2 := hid (P1.out.below hb)
  clear hb c0 c1
  go_wp2_with fail
  refine (SParse_pr t r _ HT.out HR.out P2.out).mono ?_
  rw [sparse_no HS.out, HS.out]
  rintro e w3 ⟨rfl, hb⟩
  have H3 := hid (below_new (below_then H2.out hb) (so 0 0))
  have S3 := hid ((S2.out.below hb).below (below_alloc1 _ (so 0 0)))
  clear hb
  have c0 := S3.out.c0; have c1 := S3.out.c1
  dsimp only
  go_wp2_with fail
  refine (num2_any 1 _).mono ?_
  rintro e w4 ⟨rfl, rfl⟩
  go_wp2_with fail
  refine (Right2_any t r _).mono ?_
  rw [HS.out]
  rintro e w5 ⟨rfl, hb⟩
  have H5 := hid (below_then H3.out hb)
  clear hb c0 c1
  go_wp2_with fail
  refine (knows2_any _).mono ?_
  rintro e w6 ⟨rfl, hb⟩
  have H6 := hid (below_then H5.out hb)
  clear hb
  go_wp2_with fail
  go_ret
  exact ⟨rfl, H6.out⟩

set_option maxRecDepth 100000 in
set_option maxHeartbeats 1000000 in
theorem StampBack_ok (t r : Int) (w : World) (ht : I64 t) (hr : I64 r) (hp : PowTab w) (hs : sright t r = true) :
    Calls Tryd.prog 11 #[stv t r] w fun e w' => e = .returned (.bool true) ∧ Below w.heap.size w w' := by
  have S0 := hid (SAt.new w t r _ rfl)
  have H0 := hid (below_alloc1 w (so t r))
  have P0 := hid (hp.below (below_alloc1 w (so t r)))
  have HT := hid ht; have HR := hid hr; have HS := hid hs
  clear hp ht hr hs
  go_enter Tryd.func11, Tryd.ntmps11
  go_wp2_with fail
  refine (SPut_ok t r _ HS.out).mono ?_
  rintro e w1 ⟨v1, rfl, ho, hb⟩
  obtain ⟨A1, n1, k1, rfl, hI, -⟩ := ho.form
  have H1 := hid (below_then H0.out hb)
  have S1 := hid (S0.out.below hb)
  have P1 := hid (P0.out.below hb)
  have I1 := hid hI
  clear hb ho hI
  have c0 := S1.out.c0; have c1 := S1.out.c1
  go_wp2_with fail
  refine (SPrint_any t r _ HT.out HR.out P1.out).mono ?_
  rintro e w2 ⟨rfl, hb⟩
  have H2 := hid (below_then H1.out hb)
  have S2 := hid (S1.out.below hb)
  have P2 := hid (P1.out.below hb)
  have I2 := hid (I1.out.below hb)
  clear hb c0 c1
  go_wp2_with fail
  refine (SParse_pr t r _ HT.out HR.out P2.out).mono ?_
  rw [sparse_ok HS.out, HS.out]
  rintro e w3 ⟨rfl, hb⟩
  have H3 := hid (below_new (below_then H2.out hb) (so t r))
  have S3 := hid ((S2.out.below hb).below (below_alloc1 _ (so t r)))
  have I3 := hid ((I2.out.below hb).below (below_alloc1 _ (so t r)))
  have X3 := hid (SAt.new w3 t r _ rfl)
  clear hb
  dsimp only
  go_wp2_with fail
  refine (num2_any 0 _).mono ?_
  rintro e w4 ⟨rfl, rfl⟩
  go_wp2_with fail
  have hn1 : n1 ≤ 140737488355328 := by
    obtain ⟨q0, q1, q2, q3⟩ := sright_bd HS.out
    have l1 := numB_le t.toNat (by omega)
    have l2 := numB_le r.toNat (by omega)
    have := I1.out.len
    rw [stB, List.length_append] at this
    omega
  refine (Open_any A1 n1 k1 _ _ I3.out hn1).mono ?_
  rintro e w4 ⟨rb, rfl, hrd, hb⟩
  have H4 := hid (below_then H3.out hb)
  have S4 := hid (S3.out.below hb)
  have X4 := hid (X3.out.below hb)
  have R4 := hid hrd
  have hbase := H3.out.size
  clear hb hrd hn1
  go_wp2_with fail
  have c0 := S4.out.c0; have c1 := S4.out.c1
  have x0 := X4.out.c0; have x1 := X4.out.c1
  have hne1 : w.heap.size ≠ rb := by have := R4.out.lo; have := S3.out.lt; omega
  have hne2 : w3.heap.size ≠ rb := by have := R4.out.lo; have := X3.out.lt; omega
  refine wp_region_held_drew (S := fun w' => w'.cell? ⟨w.heap.size, 0, none⟩ = some (.int .i64 t) ∧ w'.cell? ⟨w.heap.size, 1, none⟩ = some (.int .i64 r) ∧ w'.cell? ⟨w3.heap.size, 0, none⟩ = some (.int .i64 t) ∧ w'.cell? ⟨w3.heap.size, 1, none⟩ = some (.int .i64 r)) (by kernel_rfl) (by exact ⟨c0, c1, x0, x1⟩) (fun hHeld => ?_)
  refine takeL 0 (v := ?_) rfl (by kernel_rfl) (by kernel_rfl) (by kernel_rfl) (fun _ _ _ h => h) (by rfl) ?_ (by assumption) ?_
  case' refine_2 => (intro w hSw; (try dsimp only at hSw); go_simp; try with_reducible rfl)
  try simp only [Act.put, List.setIfInBounds_toArray, List.set_cons_zero, List.set_cons_succ]
  refine takeL 2 (v := ?_) rfl (by kernel_rfl) (by kernel_rfl) (by kernel_rfl) (fun _ _ _ h => h) (by rfl) ?_ (by assumption) ?_
  case' refine_2 => (intro w hSw; (try dsimp only at hSw); go_simp; try with_reducible rfl)
  try simp only [Act.put, List.setIfInBounds_toArray, List.set_cons_zero, List.set_cons_succ]
  refine soloL 1 rfl (by kernel_rfl) (fun K hK => ?_)
  go_simp
  go_at_call 38
  refine (STake_any _ rb _ _ R4.out.drew).mono ?_
  have htk : tStamp (stB t r, 0) = ((t, r), ([], 0)) := by
    have := tStamp_stB t r [] HS.out
    rwa [List.append_nil] at this
  rw [htk]
  rintro e w5 ⟨rfl, hrd, hg⟩
  have H5 := hid (H4.out.drew.grown hg H4.out.drew.size (fun q hq => by cases hq; have := R4.out.lo; omega))
  have S5 := hid (S4.out.drew.grown hg hne1)
  have X5 := hid (X4.out.drew.grown hg hne2)
  have R5 := hid hrd
  clear hg hrd htk
  dsimp only
  go_wp2_with fail
  refine hK.out _ _ ⟨S5.out.c0, S5.out.c1, X5.out.c0, X5.out.c1⟩ (fun hHeld => ?_)
  clear hK K
  refine takeL 3 (v := ?_) rfl (by kernel_rfl) (by kernel_rfl) (by kernel_rfl) (fun _ _ _ h => h) (by rfl) ?_ (by assumption) ?_
  case' refine_2 => (intro w hSw; (try dsimp only at hSw); go_simp; try with_reducible rfl)
  try simp only [Act.put, List.setIfInBounds_toArray, List.set_cons_zero, List.set_cons_succ]
  refine takeL 4 (v := ?_) rfl (by kernel_rfl) (by kernel_rfl) (by kernel_rfl) (fun _ _ _ h => h) (by rfl) ?_ (by assumption) ?_
  case' refine_2 => (intro w hSw; (try dsimp only at hSw); go_simp; try with_reducible rfl)
  try simp only [Act.put, List.setIfInBounds_toArray, List.set_cons_zero, List.set_cons_succ]
  refine takeL 5 (v := ?_) rfl (by kernel_rfl) (by kernel_rfl) (by kernel_rfl) (fun _ _ _ h => h) (by rfl) ?_ (by assumption) ?_
  case' refine_2 => (intro w hSw; (try dsimp only at hSw); go_simp; try with_reducible rfl)
  try simp only [Act.put, List.setIfInBounds_toArray, List.set_cons_zero, List.set_cons_succ]
  refine soloL 6 rfl (by kernel_rfl) (fun K hK => ?_)
  go_simp
  go_at_call 39
  refine (Done_r _ rb _ _ R5.out).mono ?_
  rw [rDone_nil]
  rintro e wN ⟨rfl, rfl⟩
  go_wp2_with fail
  refine hK.out _ _ hHeld (fun hHeld => ?_)
  clear hK K
  refine soloL 7 rfl (by kernel_rfl) (fun K hK => ?_)
  go_simp
  go_at_call 17
  refine (num2_any 0 _).mono ?_
  rintro e wN ⟨rfl, rfl⟩
  go_wp2_with fail
  refine hK.out _ _ hHeld (fun hHeld => ?_)
  clear hK K
  refine takeL 8 (v := ?_) rfl (by kernel_rfl) (by kernel_rfl) (by kernel_rfl) (fun _ _ _ h => h) (by rfl) ?_ (by assumption) ?_
  case' refine_2 => (intro w hSw; (try dsimp only at hSw); go_simp; try with_reducible rfl)
  try simp only [Act.put, List.setIfInBounds_toArray, List.set_cons_zero, List.set_cons_succ]
  refine takeL 9 (v := ?_) rfl (by kernel_rfl) (by kernel_rfl) (by kernel_rfl) (fun _ _ _ h => h) (by rfl) ?_ (by assumption) ?_
  case' refine_2 => (intro w hSw; (try dsimp only at hSw); go_simp; try with_reducible rfl)
  try simp only [Act.put, List.setIfInBounds_toArray, List.set_cons_zero, List.set_cons_succ]
  refine takeL 10 (v := ?_) rfl (by kernel_rfl) (by kernel_rfl) (by kernel_rfl) (fun _ _ _ h => h) (by rfl) ?_ (by assumption) ?_
  case' refine_2 => (intro w hSw; (try dsimp only at hSw); go_simp; try with_reducible rfl)
  try simp only [Act.put, List.setIfInBounds_toArray, List.set_cons_zero, List.set_cons_succ]
  refine takeL 11 (v := ?_) rfl (by kernel_rfl) (by kernel_rfl) (by kernel_rfl) (fun _ _ _ h => h) (by rfl) ?_ (by assumption) ?_
  case' refine_2 => (intro w hSw; (try dsimp only at hSw); go_simp; try with_reducible rfl)
  try simp only [Act.put, List.setIfInBounds_toArray, List.set_cons_zero, List.set_cons_succ]
  refine takeL 12 (v := ?_) rfl (by kernel_rfl) (by kernel_rfl) (by kernel_rfl) (fun _ _ _ h => h) (by rfl) ?_ (by assumption) ?_
  case' refine_2 => (intro w hSw; (try dsimp only at hSw); go_simp; try with_reducible rfl)
  try simp only [Act.put, List.setIfInBounds_toArray, List.set_cons_zero, List.set_cons_succ]
  refine takeL 13 (v := ?_) rfl (by kernel_rfl) (by kernel_rfl) (by kernel_rfl) (fun _ _ _ h => h) (by rfl) ?_ (by assumption) ?_
  case' refine_2 => (intro w hSw; (try dsimp only at hSw); go_simp; try with_reducible rfl)
  try simp only [Act.put, List.setIfInBounds_toArray, List.set_cons_zero, List.set_cons_succ]
  refine takeL 14 (v := ?_) rfl (by kernel_rfl) (by kernel_rfl) (by kernel_rfl) (fun _ _ _ h => h) (by rfl) ?_ (by assumption) ?_
  case' refine_2 => (intro w hSw; (try dsimp only at hSw); go_simp; try with_reducible rfl)
  try simp only [Act.put, List.setIfInBounds_toArray, List.set_cons_zero, List.set_cons_succ]
  refine takeL 15 (v := ?_) rfl (by kernel_rfl) (by kernel_rfl) (by kernel_rfl) (fun _ _ _ h => h) (by rfl) ?_ (by assumption) ?_
  case' refine_2 => (intro w hSw; (try dsimp only at hSw); go_simp; try with_reducible rfl)
  try simp only [Act.put, List.setIfInBounds_toArray, List.set_cons_zero, List.set_cons_succ]
  refine takeL 16 (v := ?_) rfl (by kernel_rfl) (by kernel_rfl) (by kernel_rfl) (fun _ _ _ h => h) (by rfl) ?_ (by assumption) ?_
  case' refine_2 => (intro w hSw; (try dsimp only at hSw); go_simp; try with_reducible rfl)
  try simp only [Act.put, List.setIfInBounds_toArray, List.set_cons_zero, List.set_cons_succ]
  refine takeL 17 (v := ?_) rfl (by kernel_rfl) (by kernel_rfl) (by kernel_rfl) (fun _ _ _ h => h) (by rfl) ?_ (by assumption) ?_
  case' refine_2 => (intro w hSw; (try dsimp only at hSw); go_simp; try with_reducible rfl)
  try simp only [Act.put, List.setIfInBounds_toArray, List.set_cons_zero, List.set_cons_succ]
  refine takeL 18 (v := ?_) rfl (by kernel_rfl) (by kernel_rfl) (by kernel_rfl) (fun _ _ _ h => h) (by rfl) ?_ (by assumption) ?_
  case' refine_2 => (intro w hSw; (try dsimp only at hSw); go_simp; try with_reducible rfl)
  try simp only [Act.put, List.setIfInBounds_toArray, List.set_cons_zero, List.set_cons_succ]
  refine soloL 19 rfl (by kernel_rfl) (fun K hK => ?_)
  go_simp
  go_at_call 18
  refine (knows2_any _).mono ?_
  rintro e w6 ⟨rfl, hb⟩
  have H6 := hid (below_then H5.out hb)
  have S6 := hid (S5.out.below hb)
  have X6 := hid (X5.out.below hb)
  clear hb
  go_wp2_with fail
  refine hK.out _ _ ⟨S6.out.c0, S6.out.c1, X6.out.c0, X6.out.c1⟩ (fun hHeld => ?_)
  clear hK K
  refine takeL 20 (v := ?_) rfl (by kernel_rfl) (by kernel_rfl) (by kernel_rfl) (fun _ _ _ h => h) (by rfl) ?_ (by assumption) ?_
  case' refine_2 => (intro w hSw; (try dsimp only at hSw); go_simp; try with_reducible rfl)
  try simp only [Act.put, List.setIfInBounds_toArray, List.set_cons_zero, List.set_cons_succ]
  refine takeL 21 (v := ?_) rfl (by kernel_rfl) (by kernel_rfl) (by kernel_rfl) (fun _ _ _ h => h) (by rfl) ?_ (by assumption) ?_
  case' refine_2 => (intro w hSw; (try dsimp only at hSw); go_simp; try with_reducible rfl)
  try simp only [Act.put, List.setIfInBounds_toArray, List.set_cons_zero, List.set_cons_succ]
  refine wpAnyH_done (by kernel_rfl) ?_ _
  go_wp2_with fail
  go_ret
  exact ⟨rfl, H6.out⟩
/-- The walk, from what comes in. -/
theorem StampBack_row (a : Array Value) (x : shStamp.T) (w : World) (ha : shStamp.reads w a.toList x) (hp : PowTab w) :
    Calls Tryd.prog 11 #[.agg a] w fun e w' => e = .returned (.bool true) ∧ Below w.heap.size w w' := by
  have hc := stamp_cells ha
  rw [stamp_cut ha]
  rcases hs : sright x.1 x.2.1 with _ | _
  · exact StampBack_no _ _ w (i64_bd hc.2.1) (i64_bd hc.2.2) hp hs
  · exact StampBack_ok _ _ w (i64_bd hc.2.1) (i64_bd hc.2.2) hp hs
end Go.Proofs.YtdbghnfmhgjkaaaDoor
