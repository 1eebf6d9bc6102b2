/- The document's Take of a value. -/
import Derived.Test.YtdbghnfmhgjkaaaDoorVfA
import Derived.Test.YtdbghnfmhgjkaaaDoorVbB
namespace Go.Proofs.YtdbghnfmhgjkaaaDoor
open Go.RowKit Go.Dio
set_option linter.unusedVariables false
set_option linter.unusedSimpArgs false

theorem vLook_bad {v : Int × Int × ByteArray} {s : Rst} (h0 : ¬ s.2 = 0) : vLook v s = ((0, 0, ⟨#[]⟩), s) := by
  unfold vLook
  split
  · first | rfl | rw [if_neg h0]
  · unfold rFail; rw [if_neg h0]
set_option maxRecDepth 100000 in
set_option maxHeartbeats 8000000 in
theorem rVTake_any (base rb : Nat) (s : Rst) (w : World) (h : DocAt w base rb s) (hlen : s.1.length ≤ 9223372036854775807) :
    Calls Tryd.prog 59 #[.pointer (some ⟨rb, 0, none⟩)] w (DocOut w base rb (vv (tVal s).1.1 (tVal s).1.2.1 (tVal s).1.2.2) (tVal s).2) := by
  have hlt := h.lt
  have R0 := hid (h.below (below_alloc1 w (vo 0 0 ⟨#[]⟩)))
  have Z0 := hid (VAt.new w 0 0 ⟨#[]⟩ _ rfl)
  have G0 := hid (grown_alloc (World.grownBy.refl w (some rb)) (vo 0 0 ⟨#[]⟩))
  clear h
  have hk := rUpto_range s 281474976710655 (by omega)
  have hl1 := rUpto_len 281474976710655 s
  have HT := hid (show tVal s = vLook (vRead s).1 (vRead s).2 from rfl)
  have HV := hid (show vRead s = if (rUpto 281474976710655 s).1 = 1 ∨ (rUpto 281474976710655 s).1 = 2 then (((rUpto 281474976710655 s).1, unzig (rUpto 281474976710655 (rUpto 281474976710655 s).2).1, ⟨#[]⟩), (rUpto 281474976710655 (rUpto 281474976710655 s).2).2)
  else if (rUpto 281474976710655 s).1 = 4 then ((4, (rUpto 281474976710655 (rUpto 281474976710655 s).2).1, ⟨#[]⟩), (rUpto 281474976710655 (rUpto 281474976710655 s).2).2)
  else if (rUpto 281474976710655 s).1 = 3 then ((3, 0, mkS (rText (rUpto 281474976710655 s).2).1), (rText (rUpto 281474976710655 s).2).2)
  else (((rUpto 281474976710655 s).1, 0, ⟨#[]⟩), (rUpto 281474976710655 s).2) from rfl)
  rcases h1 : rUpto 281474976710655 s with ⟨k, s1⟩
  rw [h1] at HV hk hl1
  have H1 := hid h1
  clear h1
  dsimp only at HV hk hl1
  have hks : k = 0 ∨ k = 1 ∨ k = 2 ∨ k = 3 ∨ k = 4 ∨ ((k == 1) = false ∧ (k == 2) = false ∧ (k == 3) = false ∧ (k == 4) = false ∧ k ≠ 0) := by
    simp only [beq_eq_false_iff_ne]; omega
  have HKS := hid hks
  clear hks
  go_enter Tryd.func59, Tryd.ntmps59
  go_wp2_with fail
  refine (dNum_r base rb s _ R0.out).mono ?_
  rw [H1.out]
  rintro e w1 ⟨rfl, hr, hg⟩
  have R1 := hid (hr.below (below_alloc1 w1 (vo k 0 ⟨#[]⟩)))
  have Z1 := hid ((Z0.out.grown hg (by omega)).below (below_alloc1 w1 (vo k 0 ⟨#[]⟩)))
  have G1 := hid (grown_alloc (grown_trans G0.out hg) (vo k 0 ⟨#[]⟩))
  have V1 := hid (VAt.new w1 k 0 ⟨#[]⟩ _ rfl)
  have l1 : w.heap.size < w1.heap.size := (Z0.out.grown hg (by omega)).lt
  have ZW := hid (Z0.out.grown hg (by omega))
  have RW := hid hr
  have GW := hid (grown_trans G0.out hg)
  have l2 : rb < w1.heap.size := hr.lt
  clear hr hg
  dsimp only
  have v0 := V1.out.c0; have v1 := V1.out.c1; have v2 := V1.out.c2
  rcases HKS.out with rfl | rfl | rfl | rfl | rfl | ⟨e1, e2, e3, e4, e0⟩
  · skip
    have hv : vRead s = ((0, 0, ⟨#[]⟩), s1) := HV.out.trans (by rw [if_neg (by decide), if_neg (by decide), if_neg (by decide)])
    have HT3 := hid (HT.out.trans (by rw [hv]))
    clear v0 v1 v2
    have R3 := hid R1.out; have Z3 := hid Z1.out; have G3 := hid G1.out; have V3 := hid V1.out
    have hsz : (⟨#[]⟩ : ByteArray).size ≤ 9223372036854775807 := by decide
    clear hv
    have v0 := V3.out.c0; have v1 := V3.out.c1; have v2 := V3.out.c2
    by_cases he : s1.2 = 0
    · have HE := hid he
      have cE := R3.out.cE
      rw [he] at cE
      clear he
      go_wp2_with fail
      
      refine (rVRight_any 0 0 ⟨#[]⟩ _ hsz).mono ?_
      clear v0 v1 v2
      rcases hvr : vright 0 0 ⟨#[]⟩ with _ | _
      · rintro e w4 ⟨rfl, hb⟩
        have HVR := hid hvr
        have R4 := hid (R3.out.below hb)
        have Z4 := hid (Z3.out.below hb)
        have G4 := hid (grown_then G3.out hb)
        clear hb hvr cE
        go_wp2_with fail
        refine (dFail_r base rb s1 21 _ R4.out).mono ?_
        rintro e w5 ⟨rfl, hr, hg⟩
        have R5 := hid hr
        have Z5 := hid (Z4.out.grown hg (by omega))
        have G5 := hid (grown_trans G4.out hg)
        clear hr hg
        have f0 := Z5.out.fz 0; have f1 := Z5.out.fz 1; have f2 := Z5.out.fz 2
        have z0 := Z5.out.c0; have z1 := Z5.out.c1; have z2 := Z5.out.c2
        have hlz := Z5.out.lt
        go_wp2_with fail
        (try simp only [Exit.inBlock, Exit.then]); refine bodyPost_ret (v := vv 0 0 ⟨#[]⟩) (by simp [results, show Tryd.f59.results = #[.cell 2 49] from rfl, go_sem, *]) rfl ?_
        rw [HT3.out, vLook_no HVR.out]
        refine ⟨rfl, R5.out.other Z5.out.own (vo_cells _ _ _) (by omega) (fun k hk _ => ?_), ?_⟩
        · rw [Below.heap_setCell _ ⟨w.heap.size, 2, none⟩ _ k hk, Below.heap_setCell _ ⟨w.heap.size, 1, none⟩ _ k hk, Below.heap_setCell _ ⟨w.heap.size, 0, none⟩ _ k hk]
        · repeat' first | exact G5.out | refine grown_put ?_ _ _ _ (.inl (Nat.le_refl _))
      · rintro e w4 ⟨rfl, hb⟩
        have HVR := hid hvr
        have R4 := hid (R3.out.below hb)
        have Z4 := hid (Z3.out.below hb)
        have V4 := hid (V3.out.below hb)
        have G4 := hid (grown_then G3.out hb)
        clear hb hvr cE
        have f0 := Z4.out.fz 0; have f1 := Z4.out.fz 1; have f2 := Z4.out.fz 2
        have z0 := Z4.out.c0; have z1 := Z4.out.c1; have z2 := Z4.out.c2
        have hlz := Z4.out.lt
        have x0 := V4.out.c0; have x1 := V4.out.c1; have x2 := V4.out.c2
        go_wp2_with fail
        (try simp only [Exit.inBlock, Exit.then]); refine bodyPost_ret (v := vv 0 0 ⟨#[]⟩) (by simp [results, show Tryd.f59.results = #[.cell 2 49] from rfl, go_sem, *]) rfl ?_
        rw [HT3.out, vLook_ok HVR.out HE.out]
        refine ⟨rfl, R4.out.other Z4.out.own (vo_cells _ _ _) (by omega) (fun k hk _ => ?_), ?_⟩
        · rw [Below.heap_setCell _ ⟨w.heap.size, 2, none⟩ _ k hk, Below.heap_setCell _ ⟨w.heap.size, 1, none⟩ _ k hk, Below.heap_setCell _ ⟨w.heap.size, 0, none⟩ _ k hk]
        · repeat' first | exact G4.out | refine grown_put ?_ _ _ _ (.inl (Nat.le_refl _))
    · have HE := hid he
      have cE := R3.out.cE
      have he' : (s1.2 == 0) = false := by simp [he]
      have he2 : (s1.2 != 0) = true := by simp [he]
      clear he v0 v1 v2
      have q0 := ZW.out.c0; have q1 := ZW.out.c1; have q2 := ZW.out.c2
      have q3 := ZW.out.fz 0; have q4 := ZW.out.fz 1; have q5 := ZW.out.fz 2
      have f0 := Z3.out.fz 0; have f1 := Z3.out.fz 1; have f2 := Z3.out.fz 2
      have z0 := Z3.out.c0; have z1 := Z3.out.c1; have z2 := Z3.out.c2
      have hlz := Z3.out.lt
      go_wp2_with fail
      (try simp only [Exit.inBlock, Exit.then]); refine bodyPost_ret (v := vv 0 0 ⟨#[]⟩) (by simp [results, show Tryd.f59.results = #[.cell 2 49] from rfl, go_sem, *]) rfl ?_
      rw [HT3.out, vLook_bad HE.out]
      refine ⟨rfl, (RW.out.other (w' := ((w1.setCell ⟨w.heap.size, 0, none⟩ (.int .i64 0)).setCell ⟨w.heap.size, 1, none⟩ (.int .i64 0)).setCell ⟨w.heap.size, 2, none⟩ (.string ⟨#[]⟩)) ZW.out.own (vo_cells _ _ _) (by omega) (fun k hk _ => ?_)).below (below_alloc1 _ _), ?_⟩
      · rw [Below.heap_setCell _ ⟨w.heap.size, 2, none⟩ _ k hk, Below.heap_setCell _ ⟨w.heap.size, 1, none⟩ _ k hk, Below.heap_setCell _ ⟨w.heap.size, 0, none⟩ _ k hk]
      · repeat' first | exact GW.out | refine grown_put ?_ _ _ _ (.inl (Nat.le_refl _)) | refine grown_alloc ?_ _
  · skip
    have hm := rUpto_range s1 281474976710655 (by omega)
    rcases hu : rUpto 281474976710655 s1 with ⟨m, s2⟩
    rw [hu] at HV hm
    have HU := hid hu
    clear hu
    dsimp only at HV hm
    go_wp2_with fail
    refine (dNum_r base rb s1 _ R1.out).mono ?_
    rw [HU.out]
    rintro e w2 ⟨rfl, hr, hg⟩
    have R2 := hid hr
    have Z2 := hid (Z1.out.grown hg (by omega))
    have V2 := hid (V1.out.grown hg (by omega))
    have G2 := hid (grown_trans G1.out hg)
    clear hr hg v0 v1 v2
    have v0 := V2.out.c0; have v1 := V2.out.c1; have v2 := V2.out.c2
    have g1 := V2.out.fz 1
    have u0 := V2.out.c0; have u1 := V2.out.c1; have u2 := V2.out.c2
    clear v0 v1 v2
    have hlv := V2.out.lt
    have hsz : (⟨#[]⟩ : ByteArray).size ≤ 9223372036854775807 := by decide
    dsimp only
    have hv : vRead s = ((1, unzig m, ⟨#[]⟩), s2) := HV.out.trans (by rw [if_pos (by decide)])
    have t1 : m.tdiv 2 = m / 2 := Int.tdiv_eq_ediv_of_nonneg hm.1
    have t2 : m.tmod 2 = m % 2 := Int.tmod_eq_emod_of_nonneg hm.1
    by_cases hm2 : m % 2 = 0
    · have hzz : unzig m = m / 2 := if_pos hm2
      have HT3 := hid (HT.out.trans (by rw [hv, hzz]))
      clear hv hzz
      have R3 := hid (R2.out.other (w' := w2.setCell ⟨w1.heap.size, 1, none⟩ (.int .i64 (m / 2))) V2.out.own (vo_cells _ _ _) (by omega) (fun k hk _ => Below.heap_setCell _ _ _ k hk))
      have Z3 := hid (Z2.out.off w1.heap.size 1 (.int .i64 (m / 2)) (by omega))
      have V3 := hid (V2.out.set1 (m / 2))
      have G3 := hid (grown_put G2.out w1.heap.size 1 (.int .i64 (m / 2)) (.inl (by omega)))
      have hc : ((m % 2) == 1) = false := by rw [hm2]; rfl
      have v0 := V3.out.c0; have v1 := V3.out.c1; have v2 := V3.out.c2
      by_cases he : s2.2 = 0
      · have HE := hid he
        have cE := R3.out.cE
        rw [he] at cE
        clear he
        go_wp2_with fail
        generalize w2.setCell ⟨w1.heap.size, 1, none⟩ (Value.int .i64 (m / 2)) = W at *
        refine (rVRight_any 1 (m / 2) ⟨#[]⟩ _ hsz).mono ?_
        clear v0 v1 v2
        rcases hvr : vright 1 (m / 2) ⟨#[]⟩ with _ | _
        · rintro e w4 ⟨rfl, hb⟩
          have HVR := hid hvr
          have R4 := hid (R3.out.below hb)
          have Z4 := hid (Z3.out.below hb)
          have G4 := hid (grown_then G3.out hb)
          clear hb hvr cE
          go_wp2_with fail
          refine (dFail_r base rb s2 21 _ R4.out).mono ?_
          rintro e w5 ⟨rfl, hr, hg⟩
          have R5 := hid hr
          have Z5 := hid (Z4.out.grown hg (by omega))
          have G5 := hid (grown_trans G4.out hg)
          clear hr hg
          have f0 := Z5.out.fz 0; have f1 := Z5.out.fz 1; have f2 := Z5.out.fz 2
          have z0 := Z5.out.c0; have z1 := Z5.out.c1; have z2 := Z5.out.c2
          have hlz := Z5.out.lt
          go_wp2_with fail
          (try simp only [Exit.inBlock, Exit.then]); refine bodyPost_ret (v := vv 0 0 ⟨#[]⟩) (by simp [results, show Tryd.f59.results = #[.cell 2 49] from rfl, go_sem, *]) rfl ?_
          rw [HT3.out, vLook_no HVR.out]
          refine ⟨rfl, R5.out.other Z5.out.own (vo_cells _ _ _) (by omega) (fun k hk _ => ?_), ?_⟩
          · rw [Below.heap_setCell _ ⟨w.heap.size, 2, none⟩ _ k hk, Below.heap_setCell _ ⟨w.heap.size, 1, none⟩ _ k hk, Below.heap_setCell _ ⟨w.heap.size, 0, none⟩ _ k hk]
          · repeat' first | exact G5.out | refine grown_put ?_ _ _ _ (.inl (Nat.le_refl _))
        · rintro e w4 ⟨rfl, hb⟩
          have HVR := hid hvr
          have R4 := hid (R3.out.below hb)
          have Z4 := hid (Z3.out.below hb)
          have V4 := hid (V3.out.below hb)
          have G4 := hid (grown_then G3.out hb)
          clear hb hvr cE
          have f0 := Z4.out.fz 0; have f1 := Z4.out.fz 1; have f2 := Z4.out.fz 2
          have z0 := Z4.out.c0; have z1 := Z4.out.c1; have z2 := Z4.out.c2
          have hlz := Z4.out.lt
          have x0 := V4.out.c0; have x1 := V4.out.c1; have x2 := V4.out.c2
          go_wp2_with fail
          (try simp only [Exit.inBlock, Exit.then]); refine bodyPost_ret (v := vv 1 (m / 2) ⟨#[]⟩) (by simp [results, show Tryd.f59.results = #[.cell 2 49] from rfl, go_sem, *]) rfl ?_
          rw [HT3.out, vLook_ok HVR.out HE.out]
          refine ⟨rfl, R4.out.other Z4.out.own (vo_cells _ _ _) (by omega) (fun k hk _ => ?_), ?_⟩
          · rw [Below.heap_setCell _ ⟨w.heap.size, 2, none⟩ _ k hk, Below.heap_setCell _ ⟨w.heap.size, 1, none⟩ _ k hk, Below.heap_setCell _ ⟨w.heap.size, 0, none⟩ _ k hk]
          · repeat' first | exact G4.out | refine grown_put ?_ _ _ _ (.inl (Nat.le_refl _))
      · have HE := hid he
        have cE := R3.out.cE
        have he' : (s2.2 == 0) = false := by simp [he]
        have he2 : (s2.2 != 0) = true := by simp [he]
        clear he v0 v1 v2
        have q0 := ZW.out.c0; have q1 := ZW.out.c1; have q2 := ZW.out.c2
        have q3 := ZW.out.fz 0; have q4 := ZW.out.fz 1; have q5 := ZW.out.fz 2
        have f0 := Z3.out.fz 0; have f1 := Z3.out.fz 1; have f2 := Z3.out.fz 2
        have z0 := Z3.out.c0; have z1 := Z3.out.c1; have z2 := Z3.out.c2
        have hlz := Z3.out.lt
        go_wp2_with fail
        (try simp only [Exit.inBlock, Exit.then]); refine bodyPost_ret (v := vv 0 0 ⟨#[]⟩) (by simp [results, show Tryd.f59.results = #[.cell 2 49] from rfl, go_sem, *]) rfl ?_
        rw [HT3.out, vLook_bad HE.out]
        refine ⟨rfl, R3.out.other Z3.out.own (vo_cells _ _ _) (by omega) (fun k hk _ => ?_), ?_⟩
        · rw [Below.heap_setCell _ ⟨w.heap.size, 2, none⟩ _ k hk, Below.heap_setCell _ ⟨w.heap.size, 1, none⟩ _ k hk, Below.heap_setCell _ ⟨w.heap.size, 0, none⟩ _ k hk]
        · repeat' first | exact G3.out | refine grown_put ?_ _ _ _ (.inl (Nat.le_refl _))
    · have hm3 : m % 2 = 1 := by omega
      have hzz : unzig m = -(m / 2) - 1 := if_neg hm2
      have HT3 := hid (HT.out.trans (by rw [hv, hzz]))
      clear hv hzz hm2
      have t3 : (-(m + 1)).tdiv 2 = -(m / 2) - 1 := by rw [Int.neg_tdiv, Int.tdiv_eq_ediv_of_nonneg (by omega)]; omega
      have t4 : -((m + 1).tdiv 2) = -(m / 2) - 1 := by rw [Int.tdiv_eq_ediv_of_nonneg (by omega)]; omega
      have R9 := hid (R2.out.other (w' := w2.setCell ⟨w1.heap.size, 1, none⟩ (.int .i64 (m / 2))) V2.out.own (vo_cells _ _ _) (by omega) (fun k hk _ => Below.heap_setCell _ _ _ k hk))
      have Z9 := hid (Z2.out.off w1.heap.size 1 (.int .i64 (m / 2)) (by omega))
      have V9 := hid (V2.out.set1 (m / 2))
      have G9 := hid (grown_put G2.out w1.heap.size 1 (.int .i64 (m / 2)) (.inl (by omega)))
      have R3 := hid (R9.out.other (w' := (w2.setCell ⟨w1.heap.size, 1, none⟩ (.int .i64 (m / 2))).setCell ⟨w1.heap.size, 1, none⟩ (.int .i64 (-(m / 2) - 1))) V9.out.own (vo_cells _ _ _) (by omega) (fun k hk _ => Below.heap_setCell _ _ _ k hk))
      have Z3 := hid (Z9.out.off w1.heap.size 1 (.int .i64 (-(m / 2) - 1)) (by omega))
      have V3 := hid (V9.out.set1 (-(m / 2) - 1))
      have G3 := hid (grown_put G9.out w1.heap.size 1 (.int .i64 (-(m / 2) - 1)) (.inl (by omega)))
      have hl9 := V9.out.lt
      have g9 := V9.out.fz 1
      have hc : ((m % 2) == 1) = true := by rw [hm3]; rfl
      have v0 := V3.out.c0; have v1 := V3.out.c1; have v2 := V3.out.c2
      by_cases he : s2.2 = 0
      · have HE := hid he
        have cE := R3.out.cE
        rw [he] at cE
        clear he
        go_wp2_with fail
        generalize (w2.setCell ⟨w1.heap.size, 1, none⟩ (Value.int .i64 (m / 2))).setCell ⟨w1.heap.size, 1, none⟩ (Value.int .i64 (-(m / 2) - 1)) = W at *
        refine (rVRight_any 1 (-(m / 2) - 1) ⟨#[]⟩ _ hsz).mono ?_
        clear v0 v1 v2
        rcases hvr : vright 1 (-(m / 2) - 1) ⟨#[]⟩ with _ | _
        · rintro e w4 ⟨rfl, hb⟩
          have HVR := hid hvr
          have R4 := hid (R3.out.below hb)
          have Z4 := hid (Z3.out.below hb)
          have G4 := hid (grown_then G3.out hb)
          clear hb hvr cE
          go_wp2_with fail
          refine (dFail_r base rb s2 21 _ R4.out).mono ?_
          rintro e w5 ⟨rfl, hr, hg⟩
          have R5 := hid hr
          have Z5 := hid (Z4.out.grown hg (by omega))
          have G5 := hid (grown_trans G4.out hg)
          clear hr hg
          have f0 := Z5.out.fz 0; have f1 := Z5.out.fz 1; have f2 := Z5.out.fz 2
          have z0 := Z5.out.c0; have z1 := Z5.out.c1; have z2 := Z5.out.c2
          have hlz := Z5.out.lt
          go_wp2_with fail
          (try simp only [Exit.inBlock, Exit.then]); refine bodyPost_ret (v := vv 0 0 ⟨#[]⟩) (by simp [results, show Tryd.f59.results = #[.cell 2 49] from rfl, go_sem, *]) rfl ?_
          rw [HT3.out, vLook_no HVR.out]
          refine ⟨rfl, R5.out.other Z5.out.own (vo_cells _ _ _) (by omega) (fun k hk _ => ?_), ?_⟩
          · rw [Below.heap_setCell _ ⟨w.heap.size, 2, none⟩ _ k hk, Below.heap_setCell _ ⟨w.heap.size, 1, none⟩ _ k hk, Below.heap_setCell _ ⟨w.heap.size, 0, none⟩ _ k hk]
          · repeat' first | exact G5.out | refine grown_put ?_ _ _ _ (.inl (Nat.le_refl _))
        · rintro e w4 ⟨rfl, hb⟩
          have HVR := hid hvr
          have R4 := hid (R3.out.below hb)
          have Z4 := hid (Z3.out.below hb)
          have V4 := hid (V3.out.below hb)
          have G4 := hid (grown_then G3.out hb)
          clear hb hvr cE
          have f0 := Z4.out.fz 0; have f1 := Z4.out.fz 1; have f2 := Z4.out.fz 2
          have z0 := Z4.out.c0; have z1 := Z4.out.c1; have z2 := Z4.out.c2
          have hlz := Z4.out.lt
          have x0 := V4.out.c0; have x1 := V4.out.c1; have x2 := V4.out.c2
          go_wp2_with fail
          (try simp only [Exit.inBlock, Exit.then]); refine bodyPost_ret (v := vv 1 (-(m / 2) - 1) ⟨#[]⟩) (by simp [results, show Tryd.f59.results = #[.cell 2 49] from rfl, go_sem, *]) rfl ?_
          rw [HT3.out, vLook_ok HVR.out HE.out]
          refine ⟨rfl, R4.out.other Z4.out.own (vo_cells _ _ _) (by omega) (fun k hk _ => ?_), ?_⟩
          · rw [Below.heap_setCell _ ⟨w.heap.size, 2, none⟩ _ k hk, Below.heap_setCell _ ⟨w.heap.size, 1, none⟩ _ k hk, Below.heap_setCell _ ⟨w.heap.size, 0, none⟩ _ k hk]
          · repeat' first | exact G4.out | refine grown_put ?_ _ _ _ (.inl (Nat.le_refl _))
      · have HE := hid he
        have cE := R3.out.cE
        have he' : (s2.2 == 0) = false := by simp [he]
        have he2 : (s2.2 != 0) = true := by simp [he]
        clear he v0 v1 v2
        have q0 := ZW.out.c0; have q1 := ZW.out.c1; have q2 := ZW.out.c2
        have q3 := ZW.out.fz 0; have q4 := ZW.out.fz 1; have q5 := ZW.out.fz 2
        have f0 := Z3.out.fz 0; have f1 := Z3.out.fz 1; have f2 := Z3.out.fz 2
        have z0 := Z3.out.c0; have z1 := Z3.out.c1; have z2 := Z3.out.c2
        have hlz := Z3.out.lt
        go_wp2_with fail
        (try simp only [Exit.inBlock, Exit.then]); refine bodyPost_ret (v := vv 0 0 ⟨#[]⟩) (by simp [results, show Tryd.f59.results = #[.cell 2 49] from rfl, go_sem, *]) rfl ?_
        rw [HT3.out, vLook_bad HE.out]
        refine ⟨rfl, R3.out.other Z3.out.own (vo_cells _ _ _) (by omega) (fun k hk _ => ?_), ?_⟩
        · rw [Below.heap_setCell _ ⟨w.heap.size, 2, none⟩ _ k hk, Below.heap_setCell _ ⟨w.heap.size, 1, none⟩ _ k hk, Below.heap_setCell _ ⟨w.heap.size, 0, none⟩ _ k hk]
        · repeat' first | exact G3.out | refine grown_put ?_ _ _ _ (.inl (Nat.le_refl _))
  · skip
    have hm := rUpto_range s1 281474976710655 (by omega)
    rcases hu : rUpto 281474976710655 s1 with ⟨m, s2⟩
    rw [hu] at HV hm
    have HU := hid hu
    clear hu
    dsimp only at HV hm
    go_wp2_with fail
    refine (dNum_r base rb s1 _ R1.out).mono ?_
    rw [HU.out]
    rintro e w2 ⟨rfl, hr, hg⟩
    have R2 := hid hr
    have Z2 := hid (Z1.out.grown hg (by omega))
    have V2 := hid (V1.out.grown hg (by omega))
    have G2 := hid (grown_trans G1.out hg)
    clear hr hg v0 v1 v2
    have v0 := V2.out.c0; have v1 := V2.out.c1; have v2 := V2.out.c2
    have g1 := V2.out.fz 1
    have u0 := V2.out.c0; have u1 := V2.out.c1; have u2 := V2.out.c2
    clear v0 v1 v2
    have hlv := V2.out.lt
    have hsz : (⟨#[]⟩ : ByteArray).size ≤ 9223372036854775807 := by decide
    dsimp only
    have hv : vRead s = ((2, unzig m, ⟨#[]⟩), s2) := HV.out.trans (by rw [if_pos (by decide)])
    have t1 : m.tdiv 2 = m / 2 := Int.tdiv_eq_ediv_of_nonneg hm.1
    have t2 : m.tmod 2 = m % 2 := Int.tmod_eq_emod_of_nonneg hm.1
    by_cases hm2 : m % 2 = 0
    · have hzz : unzig m = m / 2 := if_pos hm2
      have HT3 := hid (HT.out.trans (by rw [hv, hzz]))
      clear hv hzz
      have R3 := hid (R2.out.other (w' := w2.setCell ⟨w1.heap.size, 1, none⟩ (.int .i64 (m / 2))) V2.out.own (vo_cells _ _ _) (by omega) (fun k hk _ => Below.heap_setCell _ _ _ k hk))
      have Z3 := hid (Z2.out.off w1.heap.size 1 (.int .i64 (m / 2)) (by omega))
      have V3 := hid (V2.out.set1 (m / 2))
      have G3 := hid (grown_put G2.out w1.heap.size 1 (.int .i64 (m / 2)) (.inl (by omega)))
      have hc : ((m % 2) == 1) = false := by rw [hm2]; rfl
      have v0 := V3.out.c0; have v1 := V3.out.c1; have v2 := V3.out.c2
      by_cases he : s2.2 = 0
      · have HE := hid he
        have cE := R3.out.cE
        rw [he] at cE
        clear he
        go_wp2_with fail
        generalize w2.setCell ⟨w1.heap.size, 1, none⟩ (Value.int .i64 (m / 2)) = W at *
        refine (rVRight_any 2 (m / 2) ⟨#[]⟩ _ hsz).mono ?_
        clear v0 v1 v2
        rcases hvr : vright 2 (m / 2) ⟨#[]⟩ with _ | _
        · rintro e w4 ⟨rfl, hb⟩
          have HVR := hid hvr
          have R4 := hid (R3.out.below hb)
          have Z4 := hid (Z3.out.below hb)
          have G4 := hid (grown_then G3.out hb)
          clear hb hvr cE
          go_wp2_with fail
          refine (dFail_r base rb s2 21 _ R4.out).mono ?_
          rintro e w5 ⟨rfl, hr, hg⟩
          have R5 := hid hr
          have Z5 := hid (Z4.out.grown hg (by omega))
          have G5 := hid (grown_trans G4.out hg)
          clear hr hg
          have f0 := Z5.out.fz 0; have f1 := Z5.out.fz 1; have f2 := Z5.out.fz 2
          have z0 := Z5.out.c0; have z1 := Z5.out.c1; have z2 := Z5.out.c2
          have hlz := Z5.out.lt
          go_wp2_with fail
          (try simp only [Exit.inBlock, Exit.then]); refine bodyPost_ret (v := vv 0 0 ⟨#[]⟩) (by simp [results, show Tryd.f59.results = #[.cell 2 49] from rfl, go_sem, *]) rfl ?_
          rw [HT3.out, vLook_no HVR.out]
          refine ⟨rfl, R5.out.other Z5.out.own (vo_cells _ _ _) (by omega) (fun k hk _ => ?_), ?_⟩
          · rw [Below.heap_setCell _ ⟨w.heap.size, 2, none⟩ _ k hk, Below.heap_setCell _ ⟨w.heap.size, 1, none⟩ _ k hk, Below.heap_setCell _ ⟨w.heap.size, 0, none⟩ _ k hk]
          · repeat' first | exact G5.out | refine grown_put ?_ _ _ _ (.inl (Nat.le_refl _))
        · rintro e w4 ⟨rfl, hb⟩
          have HVR := hid hvr
          have R4 := hid (R3.out.below hb)
          have Z4 := hid (Z3.out.below hb)
          have V4 := hid (V3.out.below hb)
          have G4 := hid (grown_then G3.out hb)
          clear hb hvr cE
          have f0 := Z4.out.fz 0; have f1 := Z4.out.fz 1; have f2 := Z4.out.fz 2
          have z0 := Z4.out.c0; have z1 := Z4.out.c1; have z2 := Z4.out.c2
          have hlz := Z4.out.lt
          have x0 := V4.out.c0; have x1 := V4.out.c1; have x2 := V4.out.c2
          go_wp2_with fail
          (try simp only [Exit.inBlock, Exit.then]); refine bodyPost_ret (v := vv 2 (m / 2) ⟨#[]⟩) (by simp [results, show Tryd.f59.results = #[.cell 2 49] from rfl, go_sem, *]) rfl ?_
          rw [HT3.out, vLook_ok HVR.out HE.out]
          refine ⟨rfl, R4.out.other Z4.out.own (vo_cells _ _ _) (by omega) (fun k hk _ => ?_), ?_⟩
          · rw [Below.heap_setCell _ ⟨w.heap.size, 2, none⟩ _ k hk, Below.heap_setCell _ ⟨w.heap.size, 1, none⟩ _ k hk, Below.heap_setCell _ ⟨w.heap.size, 0, none⟩ _ k hk]
          · repeat' first | exact G4.out | refine grown_put ?_ _ _ _ (.inl (Nat.le_refl _))
      · have HE := hid he
        have cE := R3.out.cE
        have he' : (s2.2 == 0) = false := by simp [he]
        have he2 : (s2.2 != 0) = true := by simp [he]
        clear he v0 v1 v2
        have q0 := ZW.out.c0; have q1 := ZW.out.c1; have q2 := ZW.out.c2
        have q3 := ZW.out.fz 0; have q4 := ZW.out.fz 1; have q5 := ZW.out.fz 2
        have f0 := Z3.out.fz 0; have f1 := Z3.out.fz 1; have f2 := Z3.out.fz 2
        have z0 := Z3.out.c0; have z1 := Z3.out.c1; have z2 := Z3.out.c2
        have hlz := Z3.out.lt
        go_wp2_with fail
        (try simp only [Exit.inBlock, Exit.then]); refine bodyPost_ret (v := vv 0 0 ⟨#[]⟩) (by simp [results, show Tryd.f59.results = #[.cell 2 49] from rfl, go_sem, *]) rfl ?_
        rw [HT3.out, vLook_bad HE.out]
        refine ⟨rfl, R3.out.other Z3.out.own (vo_cells _ _ _) (by omega) (fun k hk _ => ?_), ?_⟩
        · rw [Below.heap_setCell _ ⟨w.heap.size, 2, none⟩ _ k hk, Below.heap_setCell _ ⟨w.heap.size, 1, none⟩ _ k hk, Below.heap_setCell _ ⟨w.heap.size, 0, none⟩ _ k hk]
        · repeat' first | exact G3.out | refine grown_put ?_ _ _ _ (.inl (Nat.le_refl _))
    · have hm3 : m % 2 = 1 := by omega
      have hzz : unzig m = -(m / 2) - 1 := if_neg hm2
      have HT3 := hid (HT.out.trans (by rw [hv, hzz]))
      clear hv hzz hm2
      have t3 : (-(m + 1)).tdiv 2 = -(m / 2) - 1 := by rw [Int.neg_tdiv, Int.tdiv_eq_ediv_of_nonneg (by omega)]; omega
      have t4 : -((m + 1).tdiv 2) = -(m / 2) - 1 := by rw [Int.tdiv_eq_ediv_of_nonneg (by omega)]; omega
      have R9 := hid (R2.out.other (w' := w2.setCell ⟨w1.heap.size, 1, none⟩ (.int .i64 (m / 2))) V2.out.own (vo_cells _ _ _) (by omega) (fun k hk _ => Below.heap_setCell _ _ _ k hk))
      have Z9 := hid (Z2.out.off w1.heap.size 1 (.int .i64 (m / 2)) (by omega))
      have V9 := hid (V2.out.set1 (m / 2))
      have G9 := hid (grown_put G2.out w1.heap.size 1 (.int .i64 (m / 2)) (.inl (by omega)))
      have R3 := hid (R9.out.other (w' := (w2.setCell ⟨w1.heap.size, 1, none⟩ (.int .i64 (m / 2))).setCell ⟨w1.heap.size, 1, none⟩ (.int .i64 (-(m / 2) - 1))) V9.out.own (vo_cells _ _ _) (by omega) (fun k hk _ => Below.heap_setCell _ _ _ k hk))
      have Z3 := hid (Z9.out.off w1.heap.size 1 (.int .i64 (-(m / 2) - 1)) (by omega))
      have V3 := hid (V9.out.set1 (-(m / 2) - 1))
      have G3 := hid (grown_put G9.out w1.heap.size 1 (.int .i64 (-(m / 2) - 1)) (.inl (by omega)))
      have hl9 := V9.out.lt
      have g9 := V9.out.fz 1
      have hc : ((m % 2) == 1) = true := by rw [hm3]; rfl
      have v0 := V3.out.c0; have v1 := V3.out.c1; have v2 := V3.out.c2
      by_cases he : s2.2 = 0
      · have HE := hid he
        have cE := R3.out.cE
        rw [he] at cE
        clear he
        go_wp2_with fail
        generalize (w2.setCell ⟨w1.heap.size, 1, none⟩ (Value.int .i64 (m / 2))).setCell ⟨w1.heap.size, 1, none⟩ (Value.int .i64 (-(m / 2) - 1)) = W at *
        refine (rVRight_any 2 (-(m / 2) - 1) ⟨#[]⟩ _ hsz).mono ?_
        clear v0 v1 v2
        rcases hvr : vright 2 (-(m / 2) - 1) ⟨#[]⟩ with _ | _
        · rintro e w4 ⟨rfl, hb⟩
          have HVR := hid hvr
          have R4 := hid (R3.out.below hb)
          have Z4 := hid (Z3.out.below hb)
          have G4 := hid (grown_then G3.out hb)
          clear hb hvr cE
          go_wp2_with fail
          refine (dFail_r base rb s2 21 _ R4.out).mono ?_
          rintro e w5 ⟨rfl, hr, hg⟩
          have R5 := hid hr
          have Z5 := hid (Z4.out.grown hg (by omega))
          have G5 := hid (grown_trans G4.out hg)
          clear hr hg
          have f0 := Z5.out.fz 0; have f1 := Z5.out.fz 1; have f2 := Z5.out.fz 2
          have z0 := Z5.out.c0; have z1 := Z5.out.c1; have z2 := Z5.out.c2
          have hlz := Z5.out.lt
          go_wp2_with fail
          (try simp only [Exit.inBlock, Exit.then]); refine bodyPost_ret (v := vv 0 0 ⟨#[]⟩) (by simp [results, show Tryd.f59.results = #[.cell 2 49] from rfl, go_sem, *]) rfl ?_
          rw [HT3.out, vLook_no HVR.out]
          refine ⟨rfl, R5.out.other Z5.out.own (vo_cells _ _ _) (by omega) (fun k hk _ => ?_), ?_⟩
          · rw [Below.heap_setCell _ ⟨w.heap.size, 2, none⟩ _ k hk, Below.heap_setCell _ ⟨w.heap.size, 1, none⟩ _ k hk, Below.heap_setCell _ ⟨w.heap.size, 0, none⟩ _ k hk]
          · repeat' first | exact G5.out | refine grown_put ?_ _ _ _ (.inl (Nat.le_refl _))
        · rintro e w4 ⟨rfl, hb⟩
          have HVR := hid hvr
          have R4 := hid (R3.out.below hb)
          have Z4 := hid (Z3.out.below hb)
          have V4 := hid (V3.out.below hb)
          have G4 := hid (grown_then G3.out hb)
          clear hb hvr cE
          have f0 := Z4.out.fz 0; have f1 := Z4.out.fz 1; have f2 := Z4.out.fz 2
          have z0 := Z4.out.c0; have z1 := Z4.out.c1; have z2 := Z4.out.c2
          have hlz := Z4.out.lt
          have x0 := V4.out.c0; have x1 := V4.out.c1; have x2 := V4.out.c2
          go_wp2_with fail
          (try simp only [Exit.inBlock, Exit.then]); refine bodyPost_ret (v := vv 2 (-(m / 2) - 1) ⟨#[]⟩) (by simp [results, show Tryd.f59.results = #[.cell 2 49] from rfl, go_sem, *]) rfl ?_
          rw [HT3.out, vLook_ok HVR.out HE.out]
          refine ⟨rfl, R4.out.other Z4.out.own (vo_cells _ _ _) (by omega) (fun k hk _ => ?_), ?_⟩
          · rw [Below.heap_setCell _ ⟨w.heap.size, 2, none⟩ _ k hk, Below.heap_setCell _ ⟨w.heap.size, 1, none⟩ _ k hk, Below.heap_setCell _ ⟨w.heap.size, 0, none⟩ _ k hk]
          · repeat' first | exact G4.out | refine grown_put ?_ _ _ _ (.inl (Nat.le_refl _))
      · have HE := hid he
        have cE := R3.out.cE
        have he' : (s2.2 == 0) = false := by simp [he]
        have he2 : (s2.2 != 0) = true := by simp [he]
        clear he v0 v1 v2
        have q0 := ZW.out.c0; have q1 := ZW.out.c1; have q2 := ZW.out.c2
        have q3 := ZW.out.fz 0; have q4 := ZW.out.fz 1; have q5 := ZW.out.fz 2
        have f0 := Z3.out.fz 0; have f1 := Z3.out.fz 1; have f2 := Z3.out.fz 2
        have z0 := Z3.out.c0; have z1 := Z3.out.c1; have z2 := Z3.out.c2
        have hlz := Z3.out.lt
        go_wp2_with fail
        (try simp only [Exit.inBlock, Exit.then]); refine bodyPost_ret (v := vv 0 0 ⟨#[]⟩) (by simp [results, show Tryd.f59.results = #[.cell 2 49] from rfl, go_sem, *]) rfl ?_
        rw [HT3.out, vLook_bad HE.out]
        refine ⟨rfl, R3.out.other Z3.out.own (vo_cells _ _ _) (by omega) (fun k hk _ => ?_), ?_⟩
        · rw [Below.heap_setCell _ ⟨w.heap.size, 2, none⟩ _ k hk, Below.heap_setCell _ ⟨w.heap.size, 1, none⟩ _ k hk, Below.heap_setCell _ ⟨w.heap.size, 0, none⟩ _ k hk]
        · repeat' first | exact G3.out | refine grown_put ?_ _ _ _ (.inl (Nat.le_refl _))
  · skip
    rcases hu : rText s1 with ⟨l, s2⟩
    have hl2 := rText_res s1
    rw [hu] at HV hl2
    have HU := hid hu
    clear hu
    dsimp only at HV hl2
    have hv : vRead s = ((3, 0, mkS l), s2) := HV.out.trans (by rw [if_neg (by decide), if_neg (by decide), if_pos (by decide)])
    have HT3 := hid (HT.out.trans (by rw [hv]))
    have hsz : (mkS l).size ≤ 9223372036854775807 := by rw [mkS_size]; omega
    clear hv
    go_wp2_with fail
    refine (dText_r base rb s1 _ R1.out).mono ?_
    rw [HU.out]
    rintro e w2 ⟨rfl, hr, hg⟩
    have R2 := hid hr
    have Z2 := hid (Z1.out.grown hg (by omega))
    have V2 := hid (V1.out.grown hg (by omega))
    have G2 := hid (grown_trans G1.out hg)
    clear hr hg v0 v1 v2
    dsimp only
    generalize mkS l = t at *
    have v0 := V2.out.c0; have v1 := V2.out.c1; have v2 := V2.out.c2
    have g1 := V2.out.fz 2
    have u0 := V2.out.c0; have u1 := V2.out.c1; have u2 := V2.out.c2
    clear v0 v1 v2
    have hlv := V2.out.lt
    have R3 := hid (R2.out.other (w' := w2.setCell ⟨w1.heap.size, 2, none⟩ (.string t)) V2.out.own (vo_cells _ _ _) (by omega) (fun k hk _ => Below.heap_setCell _ _ _ k hk))
    have Z3 := hid (Z2.out.off w1.heap.size 2 (.string t) (by omega))
    have V3 := hid (V2.out.set2 t)
    have G3 := hid (grown_put G2.out w1.heap.size 2 (.string t) (.inl (by omega)))
    have v0 := V3.out.c0; have v1 := V3.out.c1; have v2 := V3.out.c2
    by_cases he : s2.2 = 0
    · have HE := hid he
      have cE := R3.out.cE
      rw [he] at cE
      clear he
      go_wp2_with fail
      generalize w2.setCell ⟨w1.heap.size, 2, none⟩ (Value.string t) = W at *
      refine (rVRight_any 3 0 t _ hsz).mono ?_
      clear v0 v1 v2
      rcases hvr : vright 3 0 t with _ | _
      · rintro e w4 ⟨rfl, hb⟩
        have HVR := hid hvr
        have R4 := hid (R3.out.below hb)
        have Z4 := hid (Z3.out.below hb)
        have G4 := hid (grown_then G3.out hb)
        clear hb hvr cE
        go_wp2_with fail
        refine (dFail_r base rb s2 21 _ R4.out).mono ?_
        rintro e w5 ⟨rfl, hr, hg⟩
        have R5 := hid hr
        have Z5 := hid (Z4.out.grown hg (by omega))
        have G5 := hid (grown_trans G4.out hg)
        clear hr hg
        have f0 := Z5.out.fz 0; have f1 := Z5.out.fz 1; have f2 := Z5.out.fz 2
        have z0 := Z5.out.c0; have z1 := Z5.out.c1; have z2 := Z5.out.c2
        have hlz := Z5.out.lt
        go_wp2_with fail
        (try simp only [Exit.inBlock, Exit.then]); refine bodyPost_ret (v := vv 0 0 ⟨#[]⟩) (by simp [results, show Tryd.f59.results = #[.cell 2 49] from rfl, go_sem, *]) rfl ?_
        rw [HT3.out, vLook_no HVR.out]
        refine ⟨rfl, R5.out.other Z5.out.own (vo_cells _ _ _) (by omega) (fun k hk _ => ?_), ?_⟩
        · rw [Below.heap_setCell _ ⟨w.heap.size, 2, none⟩ _ k hk, Below.heap_setCell _ ⟨w.heap.size, 1, none⟩ _ k hk, Below.heap_setCell _ ⟨w.heap.size, 0, none⟩ _ k hk]
        · repeat' first | exact G5.out | refine grown_put ?_ _ _ _ (.inl (Nat.le_refl _))
      · rintro e w4 ⟨rfl, hb⟩
        have HVR := hid hvr
        have R4 := hid (R3.out.below hb)
        have Z4 := hid (Z3.out.below hb)
        have V4 := hid (V3.out.below hb)
        have G4 := hid (grown_then G3.out hb)
        clear hb hvr cE
        have f0 := Z4.out.fz 0; have f1 := Z4.out.fz 1; have f2 := Z4.out.fz 2
        have z0 := Z4.out.c0; have z1 := Z4.out.c1; have z2 := Z4.out.c2
        have hlz := Z4.out.lt
        have x0 := V4.out.c0; have x1 := V4.out.c1; have x2 := V4.out.c2
        go_wp2_with fail
        (try simp only [Exit.inBlock, Exit.then]); refine bodyPost_ret (v := vv 3 0 t) (by simp [results, show Tryd.f59.results = #[.cell 2 49] from rfl, go_sem, *]) rfl ?_
        rw [HT3.out, vLook_ok HVR.out HE.out]
        refine ⟨rfl, R4.out.other Z4.out.own (vo_cells _ _ _) (by omega) (fun k hk _ => ?_), ?_⟩
        · rw [Below.heap_setCell _ ⟨w.heap.size, 2, none⟩ _ k hk, Below.heap_setCell _ ⟨w.heap.size, 1, none⟩ _ k hk, Below.heap_setCell _ ⟨w.heap.size, 0, none⟩ _ k hk]
        · repeat' first | exact G4.out | refine grown_put ?_ _ _ _ (.inl (Nat.le_refl _))
    · have HE := hid he
      have cE := R3.out.cE
      have he' : (s2.2 == 0) = false := by simp [he]
      have he2 : (s2.2 != 0) = true := by simp [he]
      clear he v0 v1 v2
      have q0 := ZW.out.c0; have q1 := ZW.out.c1; have q2 := ZW.out.c2
      have q3 := ZW.out.fz 0; have q4 := ZW.out.fz 1; have q5 := ZW.out.fz 2
      have f0 := Z3.out.fz 0; have f1 := Z3.out.fz 1; have f2 := Z3.out.fz 2
      have z0 := Z3.out.c0; have z1 := Z3.out.c1; have z2 := Z3.out.c2
      have hlz := Z3.out.lt
      go_wp2_with fail
      (try simp only [Exit.inBlock, Exit.then]); refine bodyPost_ret (v := vv 0 0 ⟨#[]⟩) (by simp [results, show Tryd.f59.results = #[.cell 2 49] from rfl, go_sem, *]) rfl ?_
      rw [HT3.out, vLook_bad HE.out]
      refine ⟨rfl, R3.out.other Z3.out.own (vo_cells _ _ _) (by omega) (fun k hk _ => ?_), ?_⟩
      · rw [Below.heap_setCell _ ⟨w.heap.size, 2, none⟩ _ k hk, Below.heap_setCell _ ⟨w.heap.size, 1, none⟩ _ k hk, Below.heap_setCell _ ⟨w.heap.size, 0, none⟩ _ k hk]
      · repeat' first | exact G3.out | refine grown_put ?_ _ _ _ (.inl (Nat.le_refl _))
  · skip
    have hm := rUpto_range s1 281474976710655 (by omega)
    rcases hu : rUpto 281474976710655 s1 with ⟨m, s2⟩
    rw [hu] at HV hm
    have HU := hid hu
    clear hu
    dsimp only at HV hm
    go_wp2_with fail
    refine (dNum_r base rb s1 _ R1.out).mono ?_
    rw [HU.out]
    rintro e w2 ⟨rfl, hr, hg⟩
    have R2 := hid hr
    have Z2 := hid (Z1.out.grown hg (by omega))
    have V2 := hid (V1.out.grown hg (by omega))
    have G2 := hid (grown_trans G1.out hg)
    clear hr hg v0 v1 v2
    have v0 := V2.out.c0; have v1 := V2.out.c1; have v2 := V2.out.c2
    have g1 := V2.out.fz 1
    have u0 := V2.out.c0; have u1 := V2.out.c1; have u2 := V2.out.c2
    clear v0 v1 v2
    have hlv := V2.out.lt
    have hsz : (⟨#[]⟩ : ByteArray).size ≤ 9223372036854775807 := by decide
    dsimp only
    have hv : vRead s = ((4, m, ⟨#[]⟩), s2) := HV.out.trans (by rw [if_neg (by decide), if_pos (by decide)])
    have HT3 := hid (HT.out.trans (by rw [hv]))
    clear hv
    have R3 := hid (R2.out.other (w' := w2.setCell ⟨w1.heap.size, 1, none⟩ (.int .i64 (m))) V2.out.own (vo_cells _ _ _) (by omega) (fun k hk _ => Below.heap_setCell _ _ _ k hk))
    have Z3 := hid (Z2.out.off w1.heap.size 1 (.int .i64 (m)) (by omega))
    have V3 := hid (V2.out.set1 (m))
    have G3 := hid (grown_put G2.out w1.heap.size 1 (.int .i64 (m)) (.inl (by omega)))
    have v0 := V3.out.c0; have v1 := V3.out.c1; have v2 := V3.out.c2
    by_cases he : s2.2 = 0
    · have HE := hid he
      have cE := R3.out.cE
      rw [he] at cE
      clear he
      go_wp2_with fail
      generalize w2.setCell ⟨w1.heap.size, 1, none⟩ (Value.int .i64 m) = W at *
      refine (rVRight_any 4 m ⟨#[]⟩ _ hsz).mono ?_
      clear v0 v1 v2
      rcases hvr : vright 4 m ⟨#[]⟩ with _ | _
      · rintro e w4 ⟨rfl, hb⟩
        have HVR := hid hvr
        have R4 := hid (R3.out.below hb)
        have Z4 := hid (Z3.out.below hb)
        have G4 := hid (grown_then G3.out hb)
        clear hb hvr cE
        go_wp2_with fail
        refine (dFail_r base rb s2 21 _ R4.out).mono ?_
        rintro e w5 ⟨rfl, hr, hg⟩
        have R5 := hid hr
        have Z5 := hid (Z4.out.grown hg (by omega))
        have G5 := hid (grown_trans G4.out hg)
        clear hr hg
        have f0 := Z5.out.fz 0; have f1 := Z5.out.fz 1; have f2 := Z5.out.fz 2
        have z0 := Z5.out.c0; have z1 := Z5.out.c1; have z2 := Z5.out.c2
        have hlz := Z5.out.lt
        go_wp2_with fail
        (try simp only [Exit.inBlock, Exit.then]); refine bodyPost_ret (v := vv 0 0 ⟨#[]⟩) (by simp [results, show Tryd.f59.results = #[.cell 2 49] from rfl, go_sem, *]) rfl ?_
        rw [HT3.out, vLook_no HVR.out]
        refine ⟨rfl, R5.out.other Z5.out.own (vo_cells _ _ _) (by omega) (fun k hk _ => ?_), ?_⟩
        · rw [Below.heap_setCell _ ⟨w.heap.size, 2, none⟩ _ k hk, Below.heap_setCell _ ⟨w.heap.size, 1, none⟩ _ k hk, Below.heap_setCell _ ⟨w.heap.size, 0, none⟩ _ k hk]
        · repeat' first | exact G5.out | refine grown_put ?_ _ _ _ (.inl (Nat.le_refl _))
      · rintro e w4 ⟨rfl, hb⟩
        have HVR := hid hvr
        have R4 := hid (R3.out.below hb)
        have Z4 := hid (Z3.out.below hb)
        have V4 := hid (V3.out.below hb)
        have G4 := hid (grown_then G3.out hb)
        clear hb hvr cE
        have f0 := Z4.out.fz 0; have f1 := Z4.out.fz 1; have f2 := Z4.out.fz 2
        have z0 := Z4.out.c0; have z1 := Z4.out.c1; have z2 := Z4.out.c2
        have hlz := Z4.out.lt
        have x0 := V4.out.c0; have x1 := V4.out.c1; have x2 := V4.out.c2
        go_wp2_with fail
        (try simp only [Exit.inBlock, Exit.then]); refine bodyPost_ret (v := vv 4 m ⟨#[]⟩) (by simp [results, show Tryd.f59.results = #[.cell 2 49] from rfl, go_sem, *]) rfl ?_
        rw [HT3.out, vLook_ok HVR.out HE.out]
        refine ⟨rfl, R4.out.other Z4.out.own (vo_cells _ _ _) (by omega) (fun k hk _ => ?_), ?_⟩
        · rw [Below.heap_setCell _ ⟨w.heap.size, 2, none⟩ _ k hk, Below.heap_setCell _ ⟨w.heap.size, 1, none⟩ _ k hk, Below.heap_setCell _ ⟨w.heap.size, 0, none⟩ _ k hk]
        · repeat' first | exact G4.out | refine grown_put ?_ _ _ _ (.inl (Nat.le_refl _))
    · have HE := hid he
      have cE := R3.out.cE
      have he' : (s2.2 == 0) = false := by simp [he]
      have he2 : (s2.2 != 0) = true := by simp [he]
      clear he v0 v1 v2
      have q0 := ZW.out.c0; have q1 := ZW.out.c1; have q2 := ZW.out.c2
      have q3 := ZW.out.fz 0; have q4 := ZW.out.fz 1; have q5 := ZW.out.fz 2
      have f0 := Z3.out.fz 0; have f1 := Z3.out.fz 1; have f2 := Z3.out.fz 2
      have z0 := Z3.out.c0; have z1 := Z3.out.c1; have z2 := Z3.out.c2
      have hlz := Z3.out.lt
      go_wp2_with fail
      (try simp only [Exit.inBlock, Exit.then]); refine bodyPost_ret (v := vv 0 0 ⟨#[]⟩) (by simp [results, show Tryd.f59.results = #[.cell 2 49] from rfl, go_sem, *]) rfl ?_
      rw [HT3.out, vLook_bad HE.out]
      refine ⟨rfl, R3.out.other Z3.out.own (vo_cells _ _ _) (by omega) (fun k hk _ => ?_), ?_⟩
      · rw [Below.heap_setCell _ ⟨w.heap.size, 2, none⟩ _ k hk, Below.heap_setCell _ ⟨w.heap.size, 1, none⟩ _ k hk, Below.heap_setCell _ ⟨w.heap.size, 0, none⟩ _ k hk]
      · repeat' first | exact G3.out | refine grown_put ?_ _ _ _ (.inl (Nat.le_refl _))
  · skip
    have hv : vRead s = ((k, 0, ⟨#[]⟩), s1) := HV.out.trans (by simp only [beq_eq_false_iff_ne] at e1 e2 e3 e4; rw [if_neg (by omega), if_neg (by omega), if_neg (by omega)])
    have HT3 := hid (HT.out.trans (by rw [hv]))
    clear v0 v1 v2
    have R3 := hid R1.out; have Z3 := hid Z1.out; have G3 := hid G1.out; have V3 := hid V1.out
    have hsz : (⟨#[]⟩ : ByteArray).size ≤ 9223372036854775807 := by decide
    clear hv
    have v0 := V3.out.c0; have v1 := V3.out.c1; have v2 := V3.out.c2
    by_cases he : s1.2 = 0
    · have HE := hid he
      have cE := R3.out.cE
      rw [he] at cE
      clear he
      go_wp2_with fail
      
      refine (rVRight_any k 0 ⟨#[]⟩ _ hsz).mono ?_
      clear v0 v1 v2
      rcases hvr : vright k 0 ⟨#[]⟩ with _ | _
      · rintro e w4 ⟨rfl, hb⟩
        have HVR := hid hvr
        have R4 := hid (R3.out.below hb)
        have Z4 := hid (Z3.out.below hb)
        have G4 := hid (grown_then G3.out hb)
        clear hb hvr cE
        go_wp2_with fail
        refine (dFail_r base rb s1 21 _ R4.out).mono ?_
        rintro e w5 ⟨rfl, hr, hg⟩
        have R5 := hid hr
        have Z5 := hid (Z4.out.grown hg (by omega))
        have G5 := hid (grown_trans G4.out hg)
        clear hr hg
        have f0 := Z5.out.fz 0; have f1 := Z5.out.fz 1; have f2 := Z5.out.fz 2
        have z0 := Z5.out.c0; have z1 := Z5.out.c1; have z2 := Z5.out.c2
        have hlz := Z5.out.lt
        go_wp2_with fail
        (try simp only [Exit.inBlock, Exit.then]); refine bodyPost_ret (v := vv 0 0 ⟨#[]⟩) (by simp [results, show Tryd.f59.results = #[.cell 2 49] from rfl, go_sem, *]) rfl ?_
        rw [HT3.out, vLook_no HVR.out]
        refine ⟨rfl, R5.out.other Z5.out.own (vo_cells _ _ _) (by omega) (fun k hk _ => ?_), ?_⟩
        · rw [Below.heap_setCell _ ⟨w.heap.size, 2, none⟩ _ k hk, Below.heap_setCell _ ⟨w.heap.size, 1, none⟩ _ k hk, Below.heap_setCell _ ⟨w.heap.size, 0, none⟩ _ k hk]
        · repeat' first | exact G5.out | refine grown_put ?_ _ _ _ (.inl (Nat.le_refl _))
      · rintro e w4 ⟨rfl, hb⟩
        have HVR := hid hvr
        have R4 := hid (R3.out.below hb)
        have Z4 := hid (Z3.out.below hb)
        have V4 := hid (V3.out.below hb)
        have G4 := hid (grown_then G3.out hb)
        clear hb hvr cE
        have f0 := Z4.out.fz 0; have f1 := Z4.out.fz 1; have f2 := Z4.out.fz 2
        have z0 := Z4.out.c0; have z1 := Z4.out.c1; have z2 := Z4.out.c2
        have hlz := Z4.out.lt
        have x0 := V4.out.c0; have x1 := V4.out.c1; have x2 := V4.out.c2
        go_wp2_with fail
        (try simp only [Exit.inBlock, Exit.then]); refine bodyPost_ret (v := vv k 0 ⟨#[]⟩) (by simp [results, show Tryd.f59.results = #[.cell 2 49] from rfl, go_sem, *]) rfl ?_
        rw [HT3.out, vLook_ok HVR.out HE.out]
        refine ⟨rfl, R4.out.other Z4.out.own (vo_cells _ _ _) (by omega) (fun k hk _ => ?_), ?_⟩
        · rw [Below.heap_setCell _ ⟨w.heap.size, 2, none⟩ _ k hk, Below.heap_setCell _ ⟨w.heap.size, 1, none⟩ _ k hk, Below.heap_setCell _ ⟨w.heap.size, 0, none⟩ _ k hk]
        · repeat' first | exact G4.out | refine grown_put ?_ _ _ _ (.inl (Nat.le_refl _))
    · have HE := hid he
      have cE := R3.out.cE
      have he' : (s1.2 == 0) = false := by simp [he]
      have he2 : (s1.2 != 0) = true := by simp [he]
      clear he v0 v1 v2
      have q0 := ZW.out.c0; have q1 := ZW.out.c1; have q2 := ZW.out.c2
      have q3 := ZW.out.fz 0; have q4 := ZW.out.fz 1; have q5 := ZW.out.fz 2
      have f0 := Z3.out.fz 0; have f1 := Z3.out.fz 1; have f2 := Z3.out.fz 2
      have z0 := Z3.out.c0; have z1 := Z3.out.c1; have z2 := Z3.out.c2
      have hlz := Z3.out.lt
      go_wp2_with fail
      (try simp only [Exit.inBlock, Exit.then]); refine bodyPost_ret (v := vv 0 0 ⟨#[]⟩) (by simp [results, show Tryd.f59.results = #[.cell 2 49] from rfl, go_sem, *]) rfl ?_
      rw [HT3.out, vLook_bad HE.out]
      refine ⟨rfl, (RW.out.other (w' := ((w1.setCell ⟨w.heap.size, 0, none⟩ (.int .i64 0)).setCell ⟨w.heap.size, 1, none⟩ (.int .i64 0)).setCell ⟨w.heap.size, 2, none⟩ (.string ⟨#[]⟩)) ZW.out.own (vo_cells _ _ _) (by omega) (fun k hk _ => ?_)).below (below_alloc1 _ _), ?_⟩
      · rw [Below.heap_setCell _ ⟨w.heap.size, 2, none⟩ _ k hk, Below.heap_setCell _ ⟨w.heap.size, 1, none⟩ _ k hk, Below.heap_setCell _ ⟨w.heap.size, 0, none⟩ _ k hk]
      · repeat' first | exact GW.out | refine grown_put ?_ _ _ _ (.inl (Nat.le_refl _)) | refine grown_alloc ?_ _
end Go.Proofs.YtdbghnfmhgjkaaaDoor
