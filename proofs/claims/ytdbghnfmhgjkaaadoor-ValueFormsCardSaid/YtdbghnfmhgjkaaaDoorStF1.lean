/- The document's digits, and a stamp as text. -/
import Derived.Test.YtdbghnfmhgjkaaaDoorPureS
import Derived.Test.YtdbghnfmhgjkaaaDoorShS
import Derived.Test.YtdbghnfmhgjkaaaDoorReg
namespace Go.Proofs.YtdbghnfmhgjkaaaDoor
open Go.RowKit Go.Dio
set_option linter.unusedVariables false
set_option linter.unusedSimpArgs false

theorem ten_cut : ∀ n : Nat, n < 10 → (ByteArray.mk #[48, 49, 50, 51, 52, 53, 54, 55, 56, 57]).extract n (n + 1) = mkS [UInt8.ofNat (48 + n)] := by decide +kernel
theorem itoa_small {n : Int} (h0 : 0 ≤ n) (h1 : n < 10) : Lib.itoa n = [UInt8.ofNat (48 + n.toNat)] := by
  unfold Lib.itoa; rw [if_neg (by omega), dd_small (by omega)]
theorem itoa_step {n : Int} (h0 : 10 ≤ n) : Lib.itoa n = Lib.itoa (n / 10) ++ Lib.itoa (n % 10) := by
  rw [itoa_small (n := n % 10) (by omega) (by omega)]
  unfold Lib.itoa
  rw [if_neg (by omega), if_neg (by omega), dd_step (by omega), show n.toNat / 10 = (n / 10).toNat by omega, show n.toNat % 10 = (n % 10).toNat by omega]
theorem itoa_minus {n : Int} (h0 : n < 0) : Lib.itoa n = 45 :: Lib.itoa (-n) := by
  unfold Lib.itoa
  rw [if_pos h0, if_neg (by omega), show n.natAbs = (-n).toNat by omega]
theorem itoa_mstep {n : Int} (h0 : n ≤ -10) : Lib.itoa n = 45 :: (Lib.itoa (-(n.tdiv 10)) ++ Lib.itoa (-(n.tmod 10))) := by
  have e1 : -(n.tdiv 10) = (-n) / 10 := by
    rw [← Int.neg_tdiv, Int.tdiv_eq_ediv_of_nonneg (by omega)]
  have e2 : -(n.tmod 10) = (-n) % 10 := by
    rw [← Int.neg_tmod, Int.tmod_eq_emod_of_nonneg (by omega)]
  rw [itoa_minus (by omega), itoa_step (n := -n) (by omega), e1, e2]
theorem mk_add_size (xs ys : List UInt8) (h : xs.length + ys.length ≤ 1000) : ¬ 9223372036854775807 < (mkS xs).size + (mkS ys).size := by rw [mkS_size, mkS_size]; omega

theorem wrap64_id {x : Int} (h1 : -9223372036854775808 ≤ x) (h2 : x ≤ 9223372036854775807) : wrap64 x = x := by
  have := IntKind.wrap_i64 x
  unfold wrap64; omega
set_option maxRecDepth 100000 in
set_option maxHeartbeats 2000000 in
theorem digits2_c1 (n : Int) (w : World) (h0 : 0 ≤ n) (h1 : n < 10) : Calls Tryd.prog 91 #[.int .i64 n] w fun e w' => e = .returned (.string (mkS (Lib.itoa n))) ∧ w = w' := by
  have hcut := ten_cut n.toNat (by omega)
  rw [itoa_small h0 h1]
  go_enter Tryd.func91, Tryd.ntmps91
  go_wp2_with fail
  go_ret
  refine ⟨?_, rfl⟩
  rw [show (n + 1).toNat = n.toNat + 1 by omega, hcut]
  rfl
set_option maxRecDepth 100000 in
set_option maxHeartbeats 2000000 in
theorem digits2_c2 (n : Int) (w : World) (h0 : 10 ≤ n) (hn : I64 n) (h1 : Calls Tryd.prog 91 #[.int .i64 (n / 10)] w fun e w' => e = .returned (.string (mkS (Lib.itoa (n / 10)))) ∧ w = w') (h2 : Calls Tryd.prog 91 #[.int .i64 (n % 10)] w fun e w' => e = .returned (.string (mkS (Lib.itoa (n % 10)))) ∧ w = w') : Calls Tryd.prog 91 #[.int .i64 n] w fun e w' => e = .returned (.string (mkS (Lib.itoa n))) ∧ w = w' := by
  have hE := hid (itoa_step (n := n) (by omega))
  have hb := hid (mk_add_size (Lib.itoa (n / 10)) (Lib.itoa (n % 10)) (by have := itoa_len (n / 10) (by omega) (by omega); have := itoa_len (n % 10) (by omega) (by omega); omega))
  have H1 := hid h1; have H2 := hid h2
  clear h1 h2
  go_enter Tryd.func91, Tryd.ntmps91
  go_wp2_with fail
  refine H1.out.mono ?_
  rintro e w' ⟨rfl, rfl⟩
  go_wp2_with fail
  refine H2.out.mono ?_
  rintro e w' ⟨rfl, rfl⟩
  go_wp2_with fail
  go_ret
  refine ⟨?_, rfl⟩
  rw [hE.out, ← mkS_app]
  rfl
set_option maxRecDepth 100000 in
set_option maxHeartbeats 2000000 in
theorem digits2_c3 (n : Int) (w : World) (h0 : n < 0) (h9 : -10 < n) (h1 : Calls Tryd.prog 91 #[.int .i64 (-n)] w fun e w' => e = .returned (.string (mkS (Lib.itoa (-n)))) ∧ w = w') : Calls Tryd.prog 91 #[.int .i64 n] w fun e w' => e = .returned (.string (mkS (Lib.itoa n))) ∧ w = w' := by
  have hE := hid (itoa_minus (n := n) (by omega))
  have hb := hid (mk_add_size [45] (Lib.itoa (-n)) (by have := itoa_len (-n) (by omega) (by omega); simp; omega))
  have H1 := hid h1
  clear h1
  go_enter Tryd.func91, Tryd.ntmps91
  go_wp2_with fail
  refine H1.out.mono ?_
  rintro e w' ⟨rfl, rfl⟩
  go_wp2_with fail
  go_ret
  refine ⟨?_, rfl⟩
  rw [hE.out]
  show Ending.returned (.string (mkS [45] ++ mkS (Lib.itoa (-n)))) = _
  rw [mkS_app]
  rfl
set_option maxRecDepth 100000 in
set_option maxHeartbeats 2000000 in
theorem digits2_c4 (n : Int) (w : World) (h0 : n ≤ -10) (hn : I64 n) (h1 : Calls Tryd.prog 91 #[.int .i64 (-n / 10)] w fun e w' => e = .returned (.string (mkS (Lib.itoa (-n / 10)))) ∧ w = w') (h2 : Calls Tryd.prog 91 #[.int .i64 (-n % 10)] w fun e w' => e = .returned (.string (mkS (Lib.itoa (-n % 10)))) ∧ w = w') : Calls Tryd.prog 91 #[.int .i64 n] w fun e w' => e = .returned (.string (mkS (Lib.itoa n))) ∧ w = w' := by
  have l1 := itoa_len (-n / 10) (by omega) (by omega)
  have l2 := itoa_len (-n % 10) (by omega) (by omega)
  have hE := hid ((itoa_minus (n := n) (by omega)).trans (congrArg _ (itoa_step (n := -n) (by omega))))
  have hs1 : (mkS (Lib.itoa (-n / 10))).size ≤ 21 := by rw [mkS_size]; exact l1
  have hs2 : (mkS (Lib.itoa (-n % 10))).size ≤ 21 := by rw [mkS_size]; exact l2
  have H1 := hid h1; have H2 := hid h2
  have HS1 := hid hs1; have HS2 := hid hs2
  have hlt : n < 0 := by omega
  clear h1 h2 l1 l2 hs1 hs2
  generalize h1 : mkS (Lib.itoa (-n / 10)) = s1 at *
  generalize h2 : mkS (Lib.itoa (-n % 10)) = s2 at *
  have G1 := hid h1; have G2 := hid h2
  clear h1 h2
  have t1 : -(n.tdiv 10) = -n / 10 := by rw [← Int.neg_tdiv, Int.tdiv_eq_ediv_of_nonneg (by omega)]
  have t2 : -(n.tmod 10) = -n % 10 := by rw [← Int.neg_tmod, Int.tmod_eq_emod_of_nonneg (by omega)]
  have E1 := hid (show wrap64 (-(n.tdiv 10)) = -n / 10 by rw [t1]; exact wrap64_id (by omega) (by omega))
  have E2 := hid (show wrap64 (-(n.tmod 10)) = -n % 10 by rw [t2]; exact wrap64_id (by omega) (by omega))
  clear t1 t2
  go_enter Tryd.func91, Tryd.ntmps91
  go_wp2_with fail
  rw [E1.out]
  refine H1.out.mono ?_
  rintro e w' ⟨rfl, rfl⟩
  have hs1 := HS1.out; have hs2 := HS2.out
  have hb1 : ¬ 9223372036854775807 < (ByteArray.mk #[45]).size + s1.size := by
    have : (ByteArray.mk #[45]).size = 1 := rfl
    omega
  have hb2 : ¬ 9223372036854775807 < ((ByteArray.mk #[45]) ++ s1).size + s2.size := by
    have : (ByteArray.mk #[45]).size = 1 := rfl
    rw [ByteArray.size_append]; omega
  go_wp2_with fail
  rw [E2.out]
  refine H2.out.mono ?_
  rintro e w' ⟨rfl, rfl⟩
  go_wp2_with fail
  go_ret
  refine ⟨?_, rfl⟩
  rw [hE.out]
  show Ending.returned (.string (mkS [45] ++ s1 ++ s2)) = _
  rw [← G1.out, ← G2.out, mkS_app, mkS_app]
  rfl
theorem digits2_any : ∀ (k : Nat) (n : Int) (w : World), ((n < 0 → 2 * n.natAbs + 1 < k) ∧ (0 ≤ n → 2 * n.natAbs < k)) → I64 n → Calls Tryd.prog 91 #[.int .i64 n] w fun e w' => e = .returned (.string (mkS (Lib.itoa n))) ∧ w = w' := by
  intro k
  induction k with
  | zero => intro n w h; omega
  | succ k ih =>
    intro n w hk hn
    by_cases c1 : 0 ≤ n ∧ n < 10
    · exact digits2_c1 n w c1.1 c1.2
    · by_cases c2 : 0 < n
      · exact digits2_c2 n w (by omega) hn (ih (n / 10) w (by omega) ⟨by omega, by omega⟩) (ih (n % 10) w (by omega) ⟨by omega, by omega⟩)
      · by_cases c3 : -10 < n
        · exact digits2_c3 n w (by omega) c3 (ih (-n) w (by omega) ⟨by omega, by omega⟩)
        · exact digits2_c4 n w (by omega) hn (ih (-n / 10) w (by omega) ⟨by omega, by omega⟩) (ih (-n % 10) w (by omega) ⟨by omega, by omega⟩)
theorem rdigits_any (n : Int) (w : World) (hn : I64 n) :
    Calls Tryd.prog 91 #[.int .i64 n] w fun e w' => e = .returned (.string (mkS (Lib.itoa n))) ∧ w = w' :=
  digits2_any (2 * n.natAbs + 2) n w ⟨by omega, by omega⟩ hn

set_option maxRecDepth 100000 in
set_option maxHeartbeats 1000000 in
theorem rPrint2_any (t r : Int) (w : World) (ht : I64 t) (hr : I64 r) :
    Calls Tryd.prog 52 #[stv t r] w fun e w' => e = .returned (.string (mkS (prS t r))) ∧ Below w.heap.size w w' := by
  have S0 := hid (SAt.new w t r _ rfl)
  have H0 := hid (below_alloc1 w (so t r)).drew
  have c0 := S0.out.c0; have c1 := S0.out.c1
  have HT := hid ht; have HR := hid hr
  clear ht hr
  go_enter Tryd.func52, Tryd.ntmps52
  go_wp2_with fail
  refine wp_region_held_drew (S := fun w' => w'.cell? ⟨w.heap.size, 0, none⟩ = some (.int .i64 t) ∧ w'.cell? ⟨w.heap.size, 1, none⟩ = some (.int .i64 r)) (by kernel_rfl) (by exact ⟨c0, c1⟩) (fun hHeld => ?_)
  refine takeL 0 (v := ?_) rfl (by kernel_rfl) (by kernel_rfl) (by kernel_rfl) (fun _ _ _ h => h) (by rfl) ?_ (by assumption) ?_
  case' refine_2 => (intro w hSw; (try dsimp only at hSw); go_simp; try with_reducible rfl)
  try simp only [Act.put, List.setIfInBounds_toArray, List.set_cons_zero, List.set_cons_succ]
  refine takeL 1 (v := ?_) rfl (by kernel_rfl) (by kernel_rfl) (by kernel_rfl) (fun _ _ _ h => h) (by rfl) ?_ (by assumption) ?_
  case' refine_2 => (intro w hSw; (try dsimp only at hSw); go_simp; try with_reducible rfl)
  try simp only [Act.put, List.setIfInBounds_toArray, List.set_cons_zero, List.set_cons_succ]
  refine takeL 4 (v := ?_) rfl (by kernel_rfl) (by kernel_rfl) (by kernel_rfl) (fun _ _ _ h => h) (by rfl) ?_ (by assumption) ?_
  case' refine_2 => (intro w hSw; (try dsimp only at hSw); go_simp; try with_reducible rfl)
  try simp only [Act.put, List.setIfInBounds_toArray, List.set_cons_zero, List.set_cons_succ]
  refine takeL 5 (v := ?_) rfl (by kernel_rfl) (by kernel_rfl) (by kernel_rfl) (fun _ _ _ h => h) (by rfl) ?_ (by assumption) ?_
  case' refine_2 => (intro w hSw; (try dsimp only at hSw); go_simp; try with_reducible rfl)
  try simp only [Act.put, List.setIfInBounds_toArray, List.set_cons_zero, List.set_cons_succ]
  refine soloL 2 rfl (by kernel_rfl) (fun K hK => ?_)
  go_simp
  go_at_call 91
  refine (rdigits_any t _ HT.out).mono ?_
  rintro e wN ⟨rfl, rfl⟩
  go_wp2_with fail
  refine hK.out _ _ hHeld (fun hHeld => ?_)
  clear hK K
  refine takeL 3 (v := .string (mkS (Lib.itoa t ++ [64]))) rfl (by kernel_rfl) (by kernel_rfl) (by kernel_rfl) (fun _ _ _ h => h) (by rfl) ?_ (by assumption) ?_
  · intro w hSw
    go_simp
    rw [if_neg (by have := itoa_len t HT.out.1 HT.out.2; rw [mkS_size]; omega), ← mkS_app]
    rfl
  try simp only [Act.put, List.setIfInBounds_toArray, List.set_cons_zero, List.set_cons_succ]
  refine soloL 6 rfl (by kernel_rfl) (fun K hK => ?_)
  go_simp
  go_at_call 91
  refine (rdigits_any r _ HR.out).mono ?_
  rintro e wN ⟨rfl, rfl⟩
  go_wp2_with fail
  refine hK.out _ _ hHeld (fun hHeld => ?_)
  clear hK K
  refine takeL 7 (v := .string (mkS (Lib.itoa t ++ [64] ++ Lib.itoa r))) rfl (by kernel_rfl) (by kernel_rfl) (by kernel_rfl) (fun _ _ _ h => h) (by rfl) ?_ (by assumption) ?_
  · intro w hSw
    go_simp
    rw [if_neg (by have h1 := itoa_len t HT.out.1 HT.out.2; have h2 := itoa_len r HR.out.1 HR.out.2; rw [mkS_size, mkS_size, List.length_append]; simp only [List.length_singleton]; omega), mkS_app]
    try simp only [List.append_assoc, List.singleton_append]
  try simp only [Act.put, List.setIfInBounds_toArray, List.set_cons_zero, List.set_cons_succ]
  refine takeL 8 (v := ?_) rfl (by kernel_rfl) (by kernel_rfl) (by kernel_rfl) (fun _ _ _ h => h) (by rfl) ?_ (by assumption) ?_
  case' refine_2 => (intro w hSw; (try dsimp only at hSw); go_simp; try with_reducible rfl)
  try simp only [Act.put, List.setIfInBounds_toArray, List.set_cons_zero, List.set_cons_succ]
  refine wpAnyH_done (by kernel_rfl) ?_ _
  go_wp2_with fail
  go_ret
  refine ⟨?_, H0.out⟩
  rw [prS, List.append_assoc]
  rfl
end Go.Proofs.YtdbghnfmhgjkaaaDoor
