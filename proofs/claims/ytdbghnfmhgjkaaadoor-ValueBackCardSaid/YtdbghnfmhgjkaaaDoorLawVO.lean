/- ValueBack: a value that may be. -/
import Derived.Test.YtdbghnfmhgjkaaaDoorVcE
import Derived.Test.YtdbghnfmhgjkaaaDoorVcF
import Derived.Test.YtdbghnfmhgjkaaaDoorShV
namespace Go.Proofs.YtdbghnfmhgjkaaaDoor
open Go.RowKit Go.Dio
set_option linter.unusedVariables false
set_option linter.unusedSimpArgs false
theorem vB_len {k n : Int} {s : ByteArray} (h : vright k n s = true) : (vB k n s).length ≤ 140737488355328 := by
  have l1 := numB_le k.toNat (by rcases vright_cases h with ⟨rfl, _⟩ | ⟨h | h, _⟩ | ⟨rfl, _⟩ | ⟨rfl, _⟩ <;> omega)
  unfold vB
  rw [List.length_append]
  split
  · have := numB_le (zig n).toNat (by
      rcases vright_cases h with ⟨rfl, rfl, _⟩ | ⟨_, hn, _⟩ | ⟨rfl, rfl, _⟩ | ⟨rfl, hn, _⟩ <;> unfold zig <;> split <;> omega)
    omega
  · split
    · have := numB_le n.toNat (by rcases vright_cases h with ⟨rfl, rfl, _⟩ | ⟨_, hn, _⟩ | ⟨rfl, rfl, _⟩ | ⟨rfl, hn, _⟩ <;> omega)
      omega
    · split
      · rename_i hk
        rcases vright_cases h with ⟨rfl, _⟩ | ⟨h | h, _⟩ | ⟨_, _, hg⟩ | ⟨rfl, _⟩
        · omega
        · omega
        · omega
        · have := goodB_len hg
          have e : s.data.toList.length = s.size := by rw [Array.length_toList]; rfl
          have l3 := numB_le s.data.toList.length (by omega)
          have l4 : (textB s.data.toList).length = (numB s.data.toList.length).length + s.data.toList.length := by unfold textB; exact List.length_append
          omega
        · omega
      · simp; omega
set_option maxRecDepth 100000 in
set_option maxHeartbeats 4000000 in
theorem ValueBack_ok (k n : Int) (t : ByteArray) (s : ByteArray) (w : World) (ht : t.size ≤ 9223372036854775807) (hs : s.size ≤ 281474976710656) (hp : PowTab w) (he : ErrsAt w) (hr : vright k n t = true) :
    Calls Tryd.prog 14 #[vv k n t, .string s] w fun e w' => e = .returned (.bool true) ∧ Below w.heap.size w w' := by
  have V0 := hid (VAt.new w k n t _ rfl)
  have H0 := hid (below_alloc1 w (vo k n t))
  have HPW := hid hp; have HEW := hid he; have HR := hid hr
  clear hp he hr
  rcases hps : pParse s.toList with ⟨⟨x1, x2, x3⟩, bb⟩
  have HPS := hid hps
  have hx3 : x3.size ≤ 9223372036854775807 := by
    rcases bb with _ | _
    · unfold pParse at hps
      split at hps
      · simp only [Prod.mk.injEq] at hps
        obtain ⟨⟨_, _, rfl⟩, _⟩ := hps
        decide
      · simp at hps
    · obtain ⟨h1, _⟩ := pParse_true hps
      rcases vright_cases h1 with ⟨_, _, rfl⟩ | ⟨_, _, rfl⟩ | ⟨_, _, hg⟩ | ⟨_, _, rfl⟩
      · decide
      · decide
      · have := goodB_len hg; omega
      · decide
  clear hps
  go_enter Tryd.func14, Tryd.ntmps14
  go_wp2_with fail
  refine (VPut_ok k n t _ ht HR.out).mono ?_
  rintro e w1 ⟨v1, rfl, ho, hb⟩
  obtain ⟨A1, n1, k1, rfl, hI, -⟩ := ho.form
  have H1 := hid (below_then H0.out hb)
  have V1 := hid (V0.out.below hb)
  have I1 := hid hI
  have hn1 : n1 ≤ 140737488355328 := by rw [← hI.len]; exact vB_len HR.out
  have hln : (vB k n t).length ≤ 9223372036854775807 := by have := vB_len HR.out; omega
  have HTK := hid (show tVal (vB k n t, 0) = ((k, n, t), ([], 0)) by
    have := tVal_vB k n t [] HR.out
    rwa [List.append_nil] at this)
  clear hb ho hI
  have a0 := V1.out.c0; have a1 := V1.out.c1; have a2 := V1.out.c2
  go_wp2_with fail
  refine (VPrint_any k n t _ ht (HPW.out.below H1.out)).mono ?_
  rintro e w2 ⟨rfl, hb⟩
  have H2 := hid (below_then H1.out hb)
  have V2 := hid (V1.out.below hb)
  have I2 := hid (I1.out.below hb)
  clear hb a0 a1 a2
  go_wp2_with fail
  refine (VParse_any (mkS (prV k n t)) _ (by have := prV_len (k := k) (n := n) (s := t); omega) (HPW.out.below H2.out) (HEW.out.below H2.out)).mono ?_
  rw [pParse_back HR.out]
  rintro e w3 ⟨rfl, hb⟩
  have H3 := hid (below_new (below_then H2.out hb) (vo k n t))
  have V3 := hid ((V2.out.below hb).below (below_alloc1 _ (vo k n t)))
  have I3 := hid ((I2.out.below hb).below (below_alloc1 _ (vo k n t)))
  have X3 := hid (VAt.new w3 k n t _ rfl)
  clear hb
  dsimp only
  go_wp2_with fail
  refine (VParse_any s _ hs (HPW.out.below H3.out) (HEW.out.below H3.out)).mono ?_
  rw [HPS.out]
  rintro e w4 ⟨rfl, hb⟩
  have H4 := hid (below_new (below_then H3.out hb) (vo x1 x2 x3))
  have V4 := hid ((V3.out.below hb).below (below_alloc1 _ (vo x1 x2 x3)))
  have X4 := hid ((X3.out.below hb).below (below_alloc1 _ (vo x1 x2 x3)))
  have I4 := hid ((I3.out.below hb).below (below_alloc1 _ (vo x1 x2 x3)))
  have Y4 := hid (VAt.new w4 x1 x2 x3 _ rfl)
  clear hb
  dsimp only
  have y0 := Y4.out.c0; have y1 := Y4.out.c1; have y2 := Y4.out.c2
  rcases bb with _ | _
  · have H6 := hid H4.out; have V6 := hid V4.out; have X6 := hid X4.out
    have I6 := hid I4.out
    go_wp2_with fail
    refine (num3_any 0 _).mono ?_
    rintro e wN ⟨rfl, rfl⟩
    go_wp2_with fail
    refine (Open_any A1 n1 k1 _ _ I6.out hn1).mono ?_
    rintro e w7 ⟨rb, rfl, hrd, hb⟩
    have H7 := hid (below_then H6.out hb)
    have V7 := hid (V6.out.below hb)
    have X7 := hid (X6.out.below hb)
    have R7 := hid hrd
    have hbs := H6.out.size
    clear hb hrd
    go_wp2_with fail
    have hne1 : w.heap.size ≠ rb := by have := R7.out.lo; have := V6.out.lt; omega
    have hne2 : w3.heap.size ≠ rb := by have := R7.out.lo; have := X6.out.lt; omega
    refine wp_region_held_drew (S := fun w' => w'.cell? ⟨w.heap.size, 0, none⟩ = some (.int .i64 k) ∧ w'.cell? ⟨w.heap.size, 1, none⟩ = some (.int .i64 n) ∧ w'.cell? ⟨w.heap.size, 2, none⟩ = some (.string t) ∧ w'.cell? ⟨w3.heap.size, 0, none⟩ = some (.int .i64 k) ∧ w'.cell? ⟨w3.heap.size, 1, none⟩ = some (.int .i64 n) ∧ w'.cell? ⟨w3.heap.size, 2, none⟩ = some (.string t)) (by kernel_rfl) (by exact ⟨V7.out.c0, V7.out.c1, V7.out.c2, X7.out.c0, X7.out.c1, X7.out.c2⟩) (fun hHeld => ?_)
    refine takeL 0 (v := ?_) rfl (by kernel_rfl) (by kernel_rfl) (by kernel_rfl) (fun _ _ _ h => h) (by rfl) ?_ (by assumption) ?_
    case' refine_2 => (intro w hSw; (try dsimp only at hSw); go_simp; try with_reducible rfl)
    try simp only [Act.put, List.setIfInBounds_toArray, List.set_cons_zero, List.set_cons_succ]
    refine takeL 2 (v := ?_) rfl (by kernel_rfl) (by kernel_rfl) (by kernel_rfl) (fun _ _ _ h => h) (by rfl) ?_ (by assumption) ?_
    case' refine_2 => (intro w hSw; (try dsimp only at hSw); go_simp; try with_reducible rfl)
    try simp only [Act.put, List.setIfInBounds_toArray, List.set_cons_zero, List.set_cons_succ]
    refine soloL 1 rfl (by kernel_rfl) (fun K hK => ?_)
    go_simp
    go_at_call 58
    refine (VTake_any _ rb _ _ R7.out.drew hln).mono ?_
    rw [HTK.out]
    rintro e w8 ⟨rfl, hrd, hg⟩
    have H8 := hid (H7.out.drew.grown hg H7.out.drew.size (fun q hq => by cases hq; have := R7.out.lo; omega))
    have V8 := hid (V7.out.drew.grown hg hne1)
    have X8 := hid (X7.out.drew.grown hg hne2)
    have R8 := hid hrd
    clear hg hrd
    dsimp only
    go_wp2_with fail
    refine hK.out _ _ ⟨V8.out.c0, V8.out.c1, V8.out.c2, X8.out.c0, X8.out.c1, X8.out.c2⟩ (fun hHeld => ?_)
    clear hK K
    refine takeL 3 (v := ?_) rfl (by kernel_rfl) (by kernel_rfl) (by kernel_rfl) (fun _ _ _ h => h) (by rfl) ?_ (by assumption) ?_
    case' refine_2 => (intro w hSw; (try dsimp only at hSw); go_simp; try with_reducible rfl)
    try simp only [Act.put, List.setIfInBounds_toArray, List.set_cons_zero, List.set_cons_succ]
    refine takeL 4 (v := ?_) rfl (by kernel_rfl) (by kernel_rfl) (by kernel_rfl) (fun _ _ _ h => h) (by rfl) ?_ (by assumption) ?_
    case' refine_2 => (intro w hSw; (try dsimp only at hSw); go_simp; try with_reducible rfl)
    try simp only [Act.put, List.setIfInBounds_toArray, List.set_cons_zero, List.set_cons_succ]
    refine takeL 5 (v := ?_) rfl (by kernel_rfl) (by kernel_rfl) (by kernel_rfl) (fun _ _ _ h => h) (by rfl) ?_ (by assumption) ?_
    case' refine_2 => (intro w hSw; (try dsimp only at hSw); go_simp; try with_reducible rfl)
    try simp only [Act.put, List.setIfInBounds_toArray, List.set_cons_zero, List.set_cons_succ]
    refine soloL 6 rfl (by kernel_rfl) (fun K hK => ?_)
    go_simp
    go_at_call 39
    refine (Done_r _ rb _ _ R8.out).mono ?_
    rw [show rDone ([], 0) = 0 from rfl]
    rintro e wN ⟨rfl, rfl⟩
    go_wp2_with fail
    refine hK.out _ _ hHeld (fun hHeld => ?_)
    clear hK K
    refine soloL 7 rfl (by kernel_rfl) (fun K hK => ?_)
    go_simp
    go_at_call 27
    refine (num3_any 0 _).mono ?_
    rintro e wN ⟨rfl, rfl⟩
    go_wp2_with fail
    refine hK.out _ _ hHeld (fun hHeld => ?_)
    clear hK K
    refine takeL 8 (v := ?_) rfl (by kernel_rfl) (by kernel_rfl) (by kernel_rfl) (fun _ _ _ h => h) (by rfl) ?_ (by assumption) ?_
    case' refine_2 => (intro w hSw; (try dsimp only at hSw); go_simp; try with_reducible rfl)
    try simp only [Act.put, List.setIfInBounds_toArray, List.set_cons_zero, List.set_cons_succ]
    refine takeL 9 (v := ?_) rfl (by kernel_rfl) (by kernel_rfl) (by kernel_rfl) (fun _ _ _ h => h) (by rfl) ?_ (by assumption) ?_
    case' refine_2 => (intro w hSw; (try dsimp only at hSw); go_simp; try with_reducible rfl)
    try simp only [Act.put, List.setIfInBounds_toArray, List.set_cons_zero, List.set_cons_succ]
    refine takeL 10 (v := ?_) rfl (by kernel_rfl) (by kernel_rfl) (by kernel_rfl) (fun _ _ _ h => h) (by rfl) ?_ (by assumption) ?_
    case' refine_2 => (intro w hSw; (try dsimp only at hSw); go_simp; try with_reducible rfl)
    try simp only [Act.put, List.setIfInBounds_toArray, List.set_cons_zero, List.set_cons_succ]
    refine takeL 11 (v := ?_) rfl (by kernel_rfl) (by kernel_rfl) (by kernel_rfl) (fun _ _ _ h => h) (by rfl) ?_ (by assumption) ?_
    case' refine_2 => (intro w hSw; (try dsimp only at hSw); go_simp; try with_reducible rfl)
    try simp only [Act.put, List.setIfInBounds_toArray, List.set_cons_zero, List.set_cons_succ]
    refine takeL 12 (v := ?_) rfl (by kernel_rfl) (by kernel_rfl) (by kernel_rfl) (fun _ _ _ h => h) (by rfl) ?_ (by assumption) ?_
    case' refine_2 => (intro w hSw; (try dsimp only at hSw); go_simp; try with_reducible rfl)
    try simp only [Act.put, List.setIfInBounds_toArray, List.set_cons_zero, List.set_cons_succ]
    refine takeL 13 (v := ?_) rfl (by kernel_rfl) (by kernel_rfl) (by kernel_rfl) (fun _ _ _ h => h) (by rfl) ?_ (by assumption) ?_
    case' refine_2 => (intro w hSw; (try dsimp only at hSw); go_simp; try with_reducible rfl)
    try simp only [Act.put, List.setIfInBounds_toArray, List.set_cons_zero, List.set_cons_succ]
    refine takeL 14 (v := ?_) rfl (by kernel_rfl) (by kernel_rfl) (by kernel_rfl) (fun _ _ _ h => h) (by rfl) ?_ (by assumption) ?_
    case' refine_2 => (intro w hSw; (try dsimp only at hSw); go_simp; try with_reducible rfl)
    try simp only [Act.put, List.setIfInBounds_toArray, List.set_cons_zero, List.set_cons_succ]
    refine takeL 15 (v := ?_) rfl (by kernel_rfl) (by kernel_rfl) (by kernel_rfl) (fun _ _ _ h => h) (by rfl) ?_ (by assumption) ?_
    case' refine_2 => (intro w hSw; (try dsimp only at hSw); go_simp; try with_reducible rfl)
    try simp only [Act.put, List.setIfInBounds_toArray, List.set_cons_zero, List.set_cons_succ]
    refine takeL 16 (v := ?_) rfl (by kernel_rfl) (by kernel_rfl) (by kernel_rfl) (fun _ _ _ h => h) (by rfl) ?_ (by assumption) ?_
    case' refine_2 => (intro w hSw; (try dsimp only at hSw); go_simp; try with_reducible rfl)
    try simp only [Act.put, List.setIfInBounds_toArray, List.set_cons_zero, List.set_cons_succ]
    refine takeL 17 (v := ?_) rfl (by kernel_rfl) (by kernel_rfl) (by kernel_rfl) (fun _ _ _ h => h) (by rfl) ?_ (by assumption) ?_
    case' refine_2 => (intro w hSw; (try dsimp only at hSw); go_simp; try with_reducible rfl)
    try simp only [Act.put, List.setIfInBounds_toArray, List.set_cons_zero, List.set_cons_succ]
    refine takeL 18 (v := ?_) rfl (by kernel_rfl) (by kernel_rfl) (by kernel_rfl) (fun _ _ _ h => h) (by rfl) ?_ (by assumption) ?_
    case' refine_2 => (intro w hSw; (try dsimp only at hSw); go_simp; try with_reducible rfl)
    try simp only [Act.put, List.setIfInBounds_toArray, List.set_cons_zero, List.set_cons_succ]
    refine soloL 19 rfl (by kernel_rfl) (fun K hK => ?_)
    go_simp
    go_at_call 28
    refine (knows3_any _).mono ?_
    rintro e w9 ⟨rfl, hb⟩
    have H9 := hid (below_then H8.out hb)
    have V9 := hid (V8.out.below hb)
    have X9 := hid (X8.out.below hb)
    clear hb
    go_wp2_with fail
    refine hK.out _ _ ⟨V9.out.c0, V9.out.c1, V9.out.c2, X9.out.c0, X9.out.c1, X9.out.c2⟩ (fun hHeld => ?_)
    clear hK K
    refine takeL 20 (v := ?_) rfl (by kernel_rfl) (by kernel_rfl) (by kernel_rfl) (fun _ _ _ h => h) (by rfl) ?_ (by assumption) ?_
    case' refine_2 => (intro w hSw; (try dsimp only at hSw); go_simp; try with_reducible rfl)
    try simp only [Act.put, List.setIfInBounds_toArray, List.set_cons_zero, List.set_cons_succ]
    refine takeL 21 (v := ?_) rfl (by kernel_rfl) (by kernel_rfl) (by kernel_rfl) (fun _ _ _ h => h) (by rfl) ?_ (by assumption) ?_
    case' refine_2 => (intro w hSw; (try dsimp only at hSw); go_simp; try with_reducible rfl)
    try simp only [Act.put, List.setIfInBounds_toArray, List.set_cons_zero, List.set_cons_succ]
    refine wpAnyH_done (by kernel_rfl) ?_ _
    go_wp2_with fail
    go_ret
    exact ⟨rfl, H9.out⟩
  · obtain ⟨hxr, hxp⟩ := pParse_true HPS.out
    have HXR := hid hxr
    have hmk := mkS_is hxp
    have HMK := hid hmk
    clear hxr hxp hmk
    go_wp2_with fail
    refine (VRight_any x1 x2 x3 _ hx3).mono ?_
    rw [HXR.out]
    rintro e w5 ⟨rfl, hb⟩
    have H5 := hid (below_then H4.out hb)
    have V5 := hid (V4.out.below hb)
    have X5 := hid (X4.out.below hb)
    have Y5 := hid (Y4.out.below hb)
    have I5 := hid (I4.out.below hb)
    clear hb y0 y1 y2
    have y0 := Y5.out.c0; have y1 := Y5.out.c1; have y2 := Y5.out.c2
    go_wp2_with fail
    refine (VPrint_any x1 x2 x3 _ hx3 (HPW.out.below H5.out)).mono ?_
    rw [HMK.out]
    rintro e w6 ⟨rfl, hb⟩
    have H6 := hid (below_then H5.out hb)
    have V6 := hid (V5.out.below hb)
    have X6 := hid (X5.out.below hb)
    have I6 := hid (I5.out.below hb)
    clear hb y0 y1 y2
    go_wp2_with fail
    refine (num3_any 0 _).mono ?_
    rintro e wN ⟨rfl, rfl⟩
    go_wp2_with fail
    refine (Open_any A1 n1 k1 _ _ I6.out hn1).mono ?_
    rintro e w7 ⟨rb, rfl, hrd, hb⟩
    have H7 := hid (below_then H6.out hb)
    have V7 := hid (V6.out.below hb)
    have X7 := hid (X6.out.below hb)
    have R7 := hid hrd
    have hbs := H6.out.size
    clear hb hrd
    go_wp2_with fail
    have hne1 : w.heap.size ≠ rb := by have := R7.out.lo; have := V6.out.lt; omega
    have hne2 : w3.heap.size ≠ rb := by have := R7.out.lo; have := X6.out.lt; omega
    refine wp_region_held_drew (S := fun w' => w'.cell? ⟨w.heap.size, 0, none⟩ = some (.int .i64 k) ∧ w'.cell? ⟨w.heap.size, 1, none⟩ = some (.int .i64 n) ∧ w'.cell? ⟨w.heap.size, 2, none⟩ = some (.string t) ∧ w'.cell? ⟨w3.heap.size, 0, none⟩ = some (.int .i64 k) ∧ w'.cell? ⟨w3.heap.size, 1, none⟩ = some (.int .i64 n) ∧ w'.cell? ⟨w3.heap.size, 2, none⟩ = some (.string t)) (by kernel_rfl) (by exact ⟨V7.out.c0, V7.out.c1, V7.out.c2, X7.out.c0, X7.out.c1, X7.out.c2⟩) (fun hHeld => ?_)
    refine takeL 0 (v := ?_) rfl (by kernel_rfl) (by kernel_rfl) (by kernel_rfl) (fun _ _ _ h => h) (by rfl) ?_ (by assumption) ?_
    case' refine_2 => (intro w hSw; (try dsimp only at hSw); go_simp; try with_reducible rfl)
    try simp only [Act.put, List.setIfInBounds_toArray, List.set_cons_zero, List.set_cons_succ]
    refine takeL 2 (v := ?_) rfl (by kernel_rfl) (by kernel_rfl) (by kernel_rfl) (fun _ _ _ h => h) (by rfl) ?_ (by assumption) ?_
    case' refine_2 => (intro w hSw; (try dsimp only at hSw); go_simp; try with_reducible rfl)
    try simp only [Act.put, List.setIfInBounds_toArray, List.set_cons_zero, List.set_cons_succ]
    refine soloL 1 rfl (by kernel_rfl) (fun K hK => ?_)
    go_simp
    go_at_call 58
    refine (VTake_any _ rb _ _ R7.out.drew hln).mono ?_
    rw [HTK.out]
    rintro e w8 ⟨rfl, hrd, hg⟩
    have H8 := hid (H7.out.drew.grown hg H7.out.drew.size (fun q hq => by cases hq; have := R7.out.lo; omega))
    have V8 := hid (V7.out.drew.grown hg hne1)
    have X8 := hid (X7.out.drew.grown hg hne2)
    have R8 := hid hrd
    clear hg hrd
    dsimp only
    go_wp2_with fail
    refine hK.out _ _ ⟨V8.out.c0, V8.out.c1, V8.out.c2, X8.out.c0, X8.out.c1, X8.out.c2⟩ (fun hHeld => ?_)
    clear hK K
    refine takeL 3 (v := ?_) rfl (by kernel_rfl) (by kernel_rfl) (by kernel_rfl) (fun _ _ _ h => h) (by rfl) ?_ (by assumption) ?_
    case' refine_2 => (intro w hSw; (try dsimp only at hSw); go_simp; try with_reducible rfl)
    try simp only [Act.put, List.setIfInBounds_toArray, List.set_cons_zero, List.set_cons_succ]
    refine takeL 4 (v := ?_) rfl (by kernel_rfl) (by kernel_rfl) (by kernel_rfl) (fun _ _ _ h => h) (by rfl) ?_ (by assumption) ?_
    case' refine_2 => (intro w hSw; (try dsimp only at hSw); go_simp; try with_reducible rfl)
    try simp only [Act.put, List.setIfInBounds_toArray, List.set_cons_zero, List.set_cons_succ]
    refine takeL 5 (v := ?_) rfl (by kernel_rfl) (by kernel_rfl) (by kernel_rfl) (fun _ _ _ h => h) (by rfl) ?_ (by assumption) ?_
    case' refine_2 => (intro w hSw; (try dsimp only at hSw); go_simp; try with_reducible rfl)
    try simp only [Act.put, List.setIfInBounds_toArray, List.set_cons_zero, List.set_cons_succ]
    refine soloL 6 rfl (by kernel_rfl) (fun K hK => ?_)
    go_simp
    go_at_call 39
    refine (Done_r _ rb _ _ R8.out).mono ?_
    rw [show rDone ([], 0) = 0 from rfl]
    rintro e wN ⟨rfl, rfl⟩
    go_wp2_with fail
    refine hK.out _ _ hHeld (fun hHeld => ?_)
    clear hK K
    refine soloL 7 rfl (by kernel_rfl) (fun K hK => ?_)
    go_simp
    go_at_call 27
    refine (num3_any 0 _).mono ?_
    rintro e wN ⟨rfl, rfl⟩
    go_wp2_with fail
    refine hK.out _ _ hHeld (fun hHeld => ?_)
    clear hK K
    refine takeL 8 (v := ?_) rfl (by kernel_rfl) (by kernel_rfl) (by kernel_rfl) (fun _ _ _ h => h) (by rfl) ?_ (by assumption) ?_
    case' refine_2 => (intro w hSw; (try dsimp only at hSw); go_simp; try with_reducible rfl)
    try simp only [Act.put, List.setIfInBounds_toArray, List.set_cons_zero, List.set_cons_succ]
    refine takeL 9 (v := ?_) rfl (by kernel_rfl) (by kernel_rfl) (by kernel_rfl) (fun _ _ _ h => h) (by rfl) ?_ (by assumption) ?_
    case' refine_2 => (intro w hSw; (try dsimp only at hSw); go_simp; try with_reducible rfl)
    try simp only [Act.put, List.setIfInBounds_toArray, List.set_cons_zero, List.set_cons_succ]
    refine takeL 10 (v := ?_) rfl (by kernel_rfl) (by kernel_rfl) (by kernel_rfl) (fun _ _ _ h => h) (by rfl) ?_ (by assumption) ?_
    case' refine_2 => (intro w hSw; (try dsimp only at hSw); go_simp; try with_reducible rfl)
    try simp only [Act.put, List.setIfInBounds_toArray, List.set_cons_zero, List.set_cons_succ]
    refine takeL 11 (v := ?_) rfl (by kernel_rfl) (by kernel_rfl) (by kernel_rfl) (fun _ _ _ h => h) (by rfl) ?_ (by assumption) ?_
    case' refine_2 => (intro w hSw; (try dsimp only at hSw); go_simp; try with_reducible rfl)
    try simp only [Act.put, List.setIfInBounds_toArray, List.set_cons_zero, List.set_cons_succ]
    refine takeL 12 (v := ?_) rfl (by kernel_rfl) (by kernel_rfl) (by kernel_rfl) (fun _ _ _ h => h) (by rfl) ?_ (by assumption) ?_
    case' refine_2 => (intro w hSw; (try dsimp only at hSw); go_simp; try with_reducible rfl)
    try simp only [Act.put, List.setIfInBounds_toArray, List.set_cons_zero, List.set_cons_succ]
    refine takeL 13 (v := ?_) rfl (by kernel_rfl) (by kernel_rfl) (by kernel_rfl) (fun _ _ _ h => h) (by rfl) ?_ (by assumption) ?_
    case' refine_2 => (intro w hSw; (try dsimp only at hSw); go_simp; try with_reducible rfl)
    try simp only [Act.put, List.setIfInBounds_toArray, List.set_cons_zero, List.set_cons_succ]
    refine takeL 14 (v := ?_) rfl (by kernel_rfl) (by kernel_rfl) (by kernel_rfl) (fun _ _ _ h => h) (by rfl) ?_ (by assumption) ?_
    case' refine_2 => (intro w hSw; (try dsimp only at hSw); go_simp; try with_reducible rfl)
    try simp only [Act.put, List.setIfInBounds_toArray, List.set_cons_zero, List.set_cons_succ]
    refine takeL 15 (v := ?_) rfl (by kernel_rfl) (by kernel_rfl) (by kernel_rfl) (fun _ _ _ h => h) (by rfl) ?_ (by assumption) ?_
    case' refine_2 => (intro w hSw; (try dsimp only at hSw); go_simp; try with_reducible rfl)
    try simp only [Act.put, List.setIfInBounds_toArray, List.set_cons_zero, List.set_cons_succ]
    refine takeL 16 (v := ?_) rfl (by kernel_rfl) (by kernel_rfl) (by kernel_rfl) (fun _ _ _ h => h) (by rfl) ?_ (by assumption) ?_
    case' refine_2 => (intro w hSw; (try dsimp only at hSw); go_simp; try with_reducible rfl)
    try simp only [Act.put, List.setIfInBounds_toArray, List.set_cons_zero, List.set_cons_succ]
    refine takeL 17 (v := ?_) rfl (by kernel_rfl) (by kernel_rfl) (by kernel_rfl) (fun _ _ _ h => h) (by rfl) ?_ (by assumption) ?_
    case' refine_2 => (intro w hSw; (try dsimp only at hSw); go_simp; try with_reducible rfl)
    try simp only [Act.put, List.setIfInBounds_toArray, List.set_cons_zero, List.set_cons_succ]
    refine takeL 18 (v := ?_) rfl (by kernel_rfl) (by kernel_rfl) (by kernel_rfl) (fun _ _ _ h => h) (by rfl) ?_ (by assumption) ?_
    case' refine_2 => (intro w hSw; (try dsimp only at hSw); go_simp; try with_reducible rfl)
    try simp only [Act.put, List.setIfInBounds_toArray, List.set_cons_zero, List.set_cons_succ]
    refine soloL 19 rfl (by kernel_rfl) (fun K hK => ?_)
    go_simp
    go_at_call 28
    refine (knows3_any _).mono ?_
    rintro e w9 ⟨rfl, hb⟩
    have H9 := hid (below_then H8.out hb)
    have V9 := hid (V8.out.below hb)
    have X9 := hid (X8.out.below hb)
    clear hb
    go_wp2_with fail
    refine hK.out _ _ ⟨V9.out.c0, V9.out.c1, V9.out.c2, X9.out.c0, X9.out.c1, X9.out.c2⟩ (fun hHeld => ?_)
    clear hK K
    refine takeL 20 (v := ?_) rfl (by kernel_rfl) (by kernel_rfl) (by kernel_rfl) (fun _ _ _ h => h) (by rfl) ?_ (by assumption) ?_
    case' refine_2 => (intro w hSw; (try dsimp only at hSw); go_simp; try with_reducible rfl)
    try simp only [Act.put, List.setIfInBounds_toArray, List.set_cons_zero, List.set_cons_succ]
    refine takeL 21 (v := ?_) rfl (by kernel_rfl) (by kernel_rfl) (by kernel_rfl) (fun _ _ _ h => h) (by rfl) ?_ (by assumption) ?_
    case' refine_2 => (intro w hSw; (try dsimp only at hSw); go_simp; try with_reducible rfl)
    try simp only [Act.put, List.setIfInBounds_toArray, List.set_cons_zero, List.set_cons_succ]
    refine wpAnyH_done (by kernel_rfl) ?_ _
    go_wp2_with fail
    go_ret
    exact ⟨rfl, H9.out⟩
end Go.Proofs.YtdbghnfmhgjkaaaDoor
