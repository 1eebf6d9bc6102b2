/- Layer 2: stamps as text, and back. -/
import Derived.Test.YtdbghnfmhgjkaaaDoorItA
import Derived.Lib.IndexLaws
namespace Go.Proofs.YtdbghnfmhgjkaaaDoor
open Go.RowKit Go.Dio
set_option linter.unusedVariables false
set_option linter.unusedSimpArgs false

theorem index_at : ∀ (l r : List UInt8) (c : UInt8), (∀ x ∈ l, x ≠ c) → Lib.indexByte (l ++ c :: r) c = (l.length : Int)
  | [], r, c, _ => by simp [Lib.indexByte]
  | x :: l, r, c, h => by
    have ih := index_at l r c (fun y hy => h y (List.mem_cons_of_mem _ hy))
    have hx : (x == c) = false := by
      have := h x (List.mem_cons_self ..)
      simpa using this
    show (if x == c then (0 : Int) else if Lib.indexByte (l ++ c :: r) c == -1 then -1 else Lib.indexByte (l ++ c :: r) c + 1) = _
    rw [hx, ih]
    have h1 : ((l.length : Int) == -1) = false := by simp
    rw [h1]
    simp
/-- A stamp as text. -/
def prS (t r : Int) : List UInt8 := Lib.itoa t ++ 64 :: Lib.itoa r
theorem mkS_app (xs ys : List UInt8) : mkS xs ++ mkS ys = mkS (xs ++ ys) := by
  apply ByteArray.ext
  simp [mkS, ByteArray.data_append]
@[reducible] def I64 (n : Int) : Prop := -9223372036854775808 ≤ n ∧ n ≤ 9223372036854775807

set_option maxRecDepth 100000 in
set_option maxHeartbeats 1000000 in
theorem SPrint_any (t r : Int) (w : World) (ht : I64 t) (hr : I64 r) (hp : PowTab w) :
    Calls Tryd.prog 35 #[stv t r] w fun e w' => e = .returned (.string (mkS (prS t r))) ∧ Below w.heap.size w w' := by
  have S0 := hid (SAt.new w t r _ rfl)
  have H0 := hid (below_alloc1 w (so t r)).drew
  have P0 := hid (hp.below (below_alloc1 w (so t r)).drew)
  have c0 := S0.out.c0; have c1 := S0.out.c1
  have HT := hid ht; have HR := hid hr
  clear hp ht hr
  go_enter Tryd.func35, Tryd.ntmps35
  go_wp2_with fail
  refine wp_region_held_drew (S := fun w' => w'.cell? ⟨w.heap.size, 0, none⟩ = some (.int .i64 t) ∧ w'.cell? ⟨w.heap.size, 1, none⟩ = some (.int .i64 r)) (by kernel_rfl) (by exact ⟨c0, c1⟩) (fun hHeld => ?_)
  refine takeL 0 (v := ?_) rfl (by kernel_rfl) (by kernel_rfl) (by kernel_rfl) (fun _ _ _ h => h) (by rfl) ?_ (by assumption) ?_
  case' refine_2 => (intro w hSw; (try dsimp only at hSw); go_simp; try with_reducible rfl)
  try simp only [Act.put, List.setIfInBounds_toArray, List.set_cons_zero, List.set_cons_succ]
  refine takeL 1 (v := ?_) rfl (by kernel_rfl) (by kernel_rfl) (by kernel_rfl) (fun _ _ _ h => h) (by rfl) ?_ (by assumption) ?_
  case' refine_2 => (intro w hSw; (try dsimp only at hSw); go_simp; try with_reducible rfl)
  try simp only [Act.put, List.setIfInBounds_toArray, List.set_cons_zero, List.set_cons_succ]
  refine takeL 4 (v := ?_) rfl (by kernel_rfl) (by kernel_rfl) (by kernel_rfl) (fun _ _ _ h => h) (by rfl) ?_ (by assumption) ?_
  case' refine_2 => (intro w hSw; (try dsimp only at hSw); go_simp; try with_reducible rfl)
  try simp only [Act.put, List.setIfInBounds_toArray, List.set_cons_zero, List.set_cons_succ]
  refine takeL 5 (v := ?_) rfl (by kernel_rfl) (by kernel_rfl) (by kernel_rfl) (fun _ _ _ h => h) (by rfl) ?_ (by assumption) ?_
  case' refine_2 => (intro w hSw; (try dsimp only at hSw); go_simp; try with_reducible rfl)
  try simp only [Act.put, List.setIfInBounds_toArray, List.set_cons_zero, List.set_cons_succ]
  refine soloL 2 rfl (by kernel_rfl) (fun K hK => ?_)
  go_simp
  go_at_call 84
  refine (Itoa_any t _ HT.out.1 HT.out.2 P0.out).mono ?_
  rintro e w1 ⟨rfl, hb⟩
  have H1 := hid (below_then H0.out hb)
  have S1 := hid (S0.out.drew.below hb)
  have P1 := hid (P0.out.below hb)
  clear hb
  go_wp2_with fail
  refine hK.out _ _ ⟨S1.out.c0, S1.out.c1⟩ (fun hHeld => ?_)
  clear hK K
  refine takeL 3 (v := .string (mkS (Lib.itoa t ++ [64]))) rfl (by kernel_rfl) (by kernel_rfl) (by kernel_rfl) (fun _ _ _ h => h) (by rfl) ?_ (by assumption) ?_
  · intro w hSw
    go_simp
    rw [if_neg (by have := itoa_len t HT.out.1 HT.out.2; rw [mkS_size]; omega), ← mkS_app]
    rfl
  try simp only [Act.put, List.setIfInBounds_toArray, List.set_cons_zero, List.set_cons_succ]
  refine soloL 6 rfl (by kernel_rfl) (fun K hK => ?_)
  go_simp
  go_at_call 84
  refine (Itoa_any r _ HR.out.1 HR.out.2 P1.out).mono ?_
  rintro e w2 ⟨rfl, hb⟩
  have H2 := hid (below_then H1.out hb)
  have S2 := hid (S1.out.below hb)
  clear hb
  go_wp2_with fail
  refine hK.out _ _ ⟨S2.out.c0, S2.out.c1⟩ (fun hHeld => ?_)
  clear hK K
  refine takeL 7 (v := .string (mkS (Lib.itoa t ++ [64] ++ Lib.itoa r))) rfl (by kernel_rfl) (by kernel_rfl) (by kernel_rfl) (fun _ _ _ h => h) (by rfl) ?_ (by assumption) ?_
  · intro w hSw
    go_simp
    rw [if_neg (by have h1 := itoa_len t HT.out.1 HT.out.2; have h2 := itoa_len r HR.out.1 HR.out.2; rw [mkS_size, mkS_size, List.length_append]; simp only [List.length_singleton]; omega), mkS_app]
    try simp only [List.append_assoc, List.singleton_append]
  try simp only [Act.put, List.setIfInBounds_toArray, List.set_cons_zero, List.set_cons_succ]
  refine takeL 8 (v := ?_) rfl (by kernel_rfl) (by kernel_rfl) (by kernel_rfl) (fun _ _ _ h => h) (by rfl) ?_ (by assumption) ?_
  case' refine_2 => (intro w hSw; (try dsimp only at hSw); go_simp; try with_reducible rfl)
  try simp only [Act.put, List.setIfInBounds_toArray, List.set_cons_zero, List.set_cons_succ]
  refine wpAnyH_done (by kernel_rfl) ?_ _
  go_wp2_with fail
  go_ret
  refine ⟨?_, H2.out⟩
  rw [prS, List.append_assoc]
  rfl
theorem pr_size (t r : Int) (ht : I64 t) (hr : I64 r) : (mkS (prS t r)).size ≤ 43 := by
  have h1 := itoa_len t ht.1 ht.2
  have h2 := itoa_len r hr.1 hr.2
  rw [mkS_size, prS, List.length_append, List.length_cons]; omega
theorem pr_index (t r : Int) : Lib.indexByte (mkS (prS t r)).data.toList 64 = ((Lib.itoa t).length : Int) := by
  rw [mkS_toList, prS]
  exact index_at _ _ _ fun x hx e => by
    have := itoa_mem hx
    subst e
    simp at this

/-- What is parsed. -/
def sparse (t r : Int) : Int × Int := if sright t r = true then (t, r) else (0, 0)
theorem sparse_ok {t r : Int} (h : sright t r = true) : sparse t r = (t, r) := if_pos h
theorem sparse_no {t r : Int} (h : sright t r = false) : sparse t r = (0, 0) := if_neg (by simp [h])
set_option maxRecDepth 100000 in
set_option maxHeartbeats 1000000 in
theorem SParse_pr (t r : Int) (w : World) (ht : I64 t) (hr : I64 r) (hp : PowTab w) :
    Calls Tryd.prog 34 #[.string (mkS (prS t r))] w fun e w' => e = .returned (.tuple #[stv (sparse t r).1 (sparse t r).2, .bool (sright t r)]) ∧ Below w.heap.size w w' := by
  have S0 := hid (SAt.new w 0 0 _ rfl)
  have H0 := hid (below_alloc1 w (so 0 0))
  have P0 := hid (hp.below (below_alloc1 w (so 0 0)))
  have hidx := pr_index t r
  have hsz := pr_size t r ht hr
  have hlt : (Lib.itoa t).length < (mkS (prS t r)).size := by rw [mkS_size, prS, List.length_append, List.length_cons]; omega
  have e1 : (mkS (prS t r)).data.toList.take (Lib.itoa t).length = Lib.itoa t := by rw [mkS_toList, prS, List.take_left]
  have e2 : (mkS (prS t r)).data.toList.drop ((Lib.itoa t).length + 1) = Lib.itoa r := by
    rw [mkS_toList, prS, ← List.drop_drop, List.drop_left]; rfl
  have HCUT := hid (fun w => Cut_at (mkS (prS t r)) 64 w (by omega) _ hidx hlt)
  have E1 := hid e1; have E2 := hid e2
  have HT := hid ht; have HR := hid hr
  clear hp ht hr hidx hsz hlt e1 e2
  generalize hs : mkS (prS t r) = s at *
  have HS := hid hs
  clear hs
  go_enter Tryd.func34, Tryd.ntmps34
  go_wp2_with fail
  refine (HCUT.out _).mono ?_
  rw [E1.out, E2.out]
  rintro e w1 ⟨rfl, hb⟩
  have H1 := hid (below_then H0.out hb)
  have S1 := hid (S0.out.below hb)
  have P1 := hid (P0.out.below hb)
  clear hb
  go_wp2_with fail
  refine (Atoi_itoa t _ HT.out.1 HT.out.2).mono ?_
  rintro e w2 ⟨rfl, hb⟩
  have H2 := hid (below_then H1.out hb)
  have S2 := hid (S1.out.below hb)
  have P2 := hid (P1.out.below hb)
  clear hb
  go_wp2_with fail
  refine (Atoi_itoa r _ HR.out.1 HR.out.2).mono ?_
  rintro e w3 ⟨rfl, hb⟩
  have H3 := hid (below_new (below_then H2.out hb) (so t r))
  have S3 := hid ((S2.out.below hb).below (below_alloc1 _ (so t r)))
  have P3 := hid ((P2.out.below hb).below (below_alloc1 _ (so t r)))
  have X3 := hid (SAt.new w3 t r _ rfl)
  clear hb
  go_wp2_with fail
  refine (Right2_any t r _).mono ?_
  rcases hsr : sright t r with _ | _
  all_goals
    have HSR := hid hsr
    rintro e w4 ⟨rfl, hb⟩
    have H4 := hid (below_then H3.out hb)
    have S4 := hid (S3.out.below hb)
    have P4 := hid (P3.out.below hb)
    have X4 := hid (X3.out.below hb)
    clear hb
    have x0 := X4.out.c0; have x1 := X4.out.c1
  · have f0 := S4.out.fz 0; have f1 := S4.out.fz 1
    have c0 := S4.out.c0; have c1 := S4.out.c1
    have hl := S4.out.lt
    go_wp2_with fail
    (try simp only [Exit.inBlock, Exit.then]); refine bodyPost_ret (v := .tuple #[stv 0 0, .bool false]) (by simp [results, show Tryd.f34.results = #[.cell 2 33, .tmp 3] from rfl, go_sem, *]) rfl ?_
    refine ⟨by rw [sparse_no HSR.out, HSR.out], ?_⟩
    repeat' first | exact H4.out | refine below_put ?_ _ _ _ (by omega)
  · go_wp2_with fail
    refine (SPrint_any t r _ HT.out HR.out P4.out).mono ?_
    rw [HS.out]
    rintro e w5 ⟨rfl, hb⟩
    have H5 := hid (below_then H4.out hb)
    have S5 := hid (S4.out.below hb)
    have X5 := hid (X4.out.below hb)
    clear hb x0 x1
    have f0 := S5.out.fz 0; have f1 := S5.out.fz 1
    have c0 := S5.out.c0; have c1 := S5.out.c1
    have x0 := X5.out.c0; have x1 := X5.out.c1
    have hl := S5.out.lt
    go_wp2_with fail
    (try simp only [Exit.inBlock, Exit.then]); refine bodyPost_ret (v := .tuple #[stv t r, .bool true]) (by simp [results, show Tryd.f34.results = #[.cell 2 33, .tmp 3] from rfl, go_sem, *]) rfl ?_
    refine ⟨by rw [sparse_ok HSR.out, HSR.out], ?_⟩
    repeat' first | exact H5.out | refine below_put ?_ _ _ _ (by omega)
end Go.Proofs.YtdbghnfmhgjkaaaDoor
