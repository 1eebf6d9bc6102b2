/- stamp.Parse at any text. -/
import Derived.Test.YtdbghnfmhgjkaaaDoorStF2
import Derived.Test.YtdbghnfmhgjkaaaDoorVcP
namespace Go.Proofs.YtdbghnfmhgjkaaaDoor
open Go.RowKit Go.Dio
set_option linter.unusedVariables false
set_option linter.unusedSimpArgs false

set_option maxRecDepth 100000 in
theorem Cut_in_no (s : ByteArray) (c : UInt8) (w : World) (hi : Lib.indexByte s.data.toList c = -1) :
    Calls Tryd.prog 105 #[.string s, .string ⟨#[c]⟩] w fun e w' => e = .returned (.tuple #[.string s, .string ⟨#[]⟩, .bool false]) ∧ Below w.heap.size w w' := by
  go_enter Tryd.func105, Tryd.ntmps105
  go_wp2_with fail
  refine (Tryd.stringslite_Index_one s c _).mono ?_
  rw [hi]
  rintro e w1 ⟨rfl, hw⟩
  have hw := hw.symm; subst hw
  go_wp2_with fail
  go_ret3
  exact ⟨rfl, Below.refl _ _⟩
theorem Cut_no (s : ByteArray) (c : UInt8) (w : World) (hi : Lib.indexByte s.data.toList c = -1) :
    Calls Tryd.prog 82 #[.string s, .string ⟨#[c]⟩] w fun e w' => e = .returned (.tuple #[.string s, .string ⟨#[]⟩, .bool false]) ∧ Below w.heap.size w w' := by
  go_enter Tryd.func82, Tryd.ntmps82
  go_wp2_with fail
  refine (Cut_in_no s c _ hi).mono ?_
  rintro e w1 ⟨rfl, hb⟩
  go_wp2_with fail
  go_ret3
  exact ⟨rfl, hb⟩

set_option maxRecDepth 100000 in
set_option maxHeartbeats 1000000 in
theorem SParse_no (s : ByteArray) (w : World) (hs : s.size ≤ 281474976710656) (he : ErrsAt w) (hi : Lib.indexByte s.data.toList 64 = -1) :
    Calls Tryd.prog 34 #[.string s] w fun e w' => e = .returned (.tuple #[stv (rSP s.data.toList).1.1 (rSP s.data.toList).1.2, .bool (rSP s.data.toList).2]) ∧ Below w.heap.size w w' := by
  have S0 := hid (SAt.new w 0 0 _ rfl)
  have H0 := hid (below_alloc1 w (so 0 0))
  have HE := hid he
  have HR := hid (rSP_none hi)
  have HI := hid hi
  clear he hi
  go_enter Tryd.func34, Tryd.ntmps34
  go_wp2_with fail
  refine (Cut_no s 64 _ HI.out).mono ?_
  rintro e w1 ⟨rfl, hb⟩
  have H1 := hid (below_then H0.out hb)
  have S1 := hid (S0.out.below hb)
  clear hb
  go_wp2_with fail
  refine (Atoi_all s _ hs (HE.out.below H1.out)).mono ?_
  rintro e w2 ⟨⟨x, er, rfl, -⟩, hb⟩
  have H2 := hid (below_then H1.out hb)
  have S2 := hid (S1.out.below hb)
  clear hb
  go_wp2_with fail
  refine (Atoi_all ⟨#[]⟩ _ (by decide) (HE.out.below H2.out)).mono ?_
  rintro e w3 ⟨⟨y, er2, rfl, -⟩, hb⟩
  have H3 := hid (below_new (below_then H2.out hb) (so x y))
  have S3 := hid ((S2.out.below hb).below (below_alloc1 _ (so x y)))
  clear hb
  have f0 := S3.out.fz 0; have f1 := S3.out.fz 1
  have c0 := S3.out.c0; have c1 := S3.out.c1
  have hl := S3.out.lt
  go_wp2_with fail
  (try simp only [Exit.inBlock, Exit.then]); refine bodyPost_ret (v := .tuple #[stv 0 0, .bool false]) (by simp [results, show Tryd.f34.results = #[.cell 2 33, .tmp 3] from rfl, go_sem, *]) rfl ?_
  refine ⟨by rw [HR.out], ?_⟩
  repeat' first | exact H3.out | refine below_put ?_ _ _ _ (by omega)

set_option maxRecDepth 100000 in
set_option maxHeartbeats 2000000 in
theorem SParse_in (s : ByteArray) (w : World) (hs : s.size ≤ 281474976710656) (hp : PowTab w) (he : ErrsAt w) (i : Nat) (hi : Lib.indexByte s.data.toList 64 = (i : Int)) :
    Calls Tryd.prog 34 #[.string s] w fun e w' => e = .returned (.tuple #[stv (rSP s.data.toList).1.1 (rSP s.data.toList).1.2, .bool (rSP s.data.toList).2]) ∧ Below w.heap.size w w' := by
  have hlen : s.data.toList.length = s.size := by rw [Array.length_toList]; rfl
  obtain ⟨hil, -, -⟩ := cut64 hi
  rw [hlen] at hil
  have S0 := hid (SAt.new w 0 0 _ rfl)
  have H0 := hid (below_alloc1 w (so 0 0))
  have HE := hid he; have HP := hid hp
  have HCUT := hid (fun w => Cut_at s 64 w (by omega) i hi hil)
  have hx1 : (mkS (s.data.toList.take i)).size ≤ 281474976710656 := by rw [mkS_size, List.length_take]; omega
  have hx2 : (mkS (s.data.toList.drop (i + 1))).size ≤ 281474976710656 := by rw [mkS_size, List.length_drop]; omega
  have d1 := mkS_toList (s.data.toList.take i)
  have d2 := mkS_toList (s.data.toList.drop (i + 1))
  have HPR := hid (rSP_prog hi)
  have HBAD := hid (rSP_bad hi)
  clear he hp hi hil hlen
  rw [← d1] at HPR HBAD
  rw [← d2] at HPR HBAD
  clear d1 d2
  generalize mkS (s.data.toList.take i) = s1 at *
  generalize mkS (s.data.toList.drop (i + 1)) = s2 at *
  go_enter Tryd.func34, Tryd.ntmps34
  go_wp2_with fail
  refine (HCUT.out _).mono ?_
  rintro e w1 ⟨rfl, hb⟩
  have H1 := hid (below_then H0.out hb)
  have S1 := hid (S0.out.below hb)
  clear hb
  go_wp2_with fail
  refine (Atoi_all s1 _ hx1 (HE.out.below H1.out)).mono ?_
  rintro e w2 ⟨⟨x, er, rfl, hx⟩, hb⟩
  have H2 := hid (below_then H1.out hb)
  have S2 := hid (S1.out.below hb)
  have HX := hid hx
  clear hb hx
  go_wp2_with fail
  refine (Atoi_all s2 _ hx2 (HE.out.below H2.out)).mono ?_
  rintro e w3 ⟨⟨y, er2, rfl, hy⟩, hb⟩
  have H3 := hid (below_new (below_then H2.out hb) (so x y))
  have S3 := hid ((S2.out.below hb).below (below_alloc1 _ (so x y)))
  have X3 := hid (SAt.new w3 x y _ rfl)
  have HY := hid hy
  clear hb hy hx1 hx2
  rcases HX.out with ⟨ex, rfl, ix⟩ | ⟨ex, ⟨t, p, rfl⟩, ix⟩
  · rcases HY.out with ⟨ey, rfl, iy⟩ | ⟨ey, ⟨t, p, rfl⟩, iy⟩
    · have EQ := hid (HPR.out x y ex ey)
      have IX := hid ix; have IY := hid iy
      clear ex ey ix iy HX HY HPR HBAD
      go_wp2_with fail
      refine (Right2_any x y _).mono ?_
      rcases hsr : sright x y with _ | _
      all_goals
        have HSR := hid hsr
        rintro e w4 ⟨rfl, hb⟩
        have H4 := hid (below_then H3.out hb)
        have S4 := hid (S3.out.below hb)
        have X4 := hid (X3.out.below hb)
        clear hb
        have x0 := X4.out.c0; have x1 := X4.out.c1
      · have EQ2 := hid (EQ.out.trans (if_neg (by rw [HSR.out]; simp)))
        clear EQ
        have f0 := S4.out.fz 0; have f1 := S4.out.fz 1
        have c0 := S4.out.c0; have c1 := S4.out.c1
        have hl := S4.out.lt
        go_wp2_with fail
        (try simp only [Exit.inBlock, Exit.then]); refine bodyPost_ret (v := .tuple #[stv 0 0, .bool false]) (by simp [results, show Tryd.f34.results = #[.cell 2 33, .tmp 3] from rfl, go_sem, *]) rfl ?_
        refine ⟨by rw [EQ2.out], ?_⟩
        repeat' first | exact H4.out | refine below_put ?_ _ _ _ (by omega)
      · go_wp2_with fail
        refine (SPrint_any x y _ IX.out IY.out (HP.out.below H4.out)).mono ?_
        rintro e w5 ⟨rfl, hb⟩
        have H5 := hid (below_then H4.out hb)
        have S5 := hid (S4.out.below hb)
        have X5 := hid (X4.out.below hb)
        clear hb x0 x1
        by_cases hpr : prS x y = s.data.toList
        · have EQ2 := hid (EQ.out.trans (if_pos ⟨HSR.out, hpr⟩))
          have hm : mkS (prS x y) = s := by rw [hpr, mkS_data]
          rw [hm]
          clear hpr hm EQ
          have f0 := S5.out.fz 0; have f1 := S5.out.fz 1
          have c0 := S5.out.c0; have c1 := S5.out.c1
          have x0 := X5.out.c0; have x1 := X5.out.c1
          have hl := S5.out.lt
          go_wp2_with fail
          (try simp only [Exit.inBlock, Exit.then]); refine bodyPost_ret (v := .tuple #[stv x y, .bool true]) (by simp [results, show Tryd.f34.results = #[.cell 2 33, .tmp 3] from rfl, go_sem, *]) rfl ?_
          refine ⟨by rw [EQ2.out], ?_⟩
          repeat' first | exact H5.out | refine below_put ?_ _ _ _ (by omega)
        · have EQ2 := hid (EQ.out.trans (if_neg (fun h => hpr h.2)))
          have hm := mkS_ne (x := prS x y) (s := s) (by rw [toList_eq]; exact hpr)
          clear hpr EQ
          generalize mkS (prS x y) = s3 at *
          have f0 := S5.out.fz 0; have f1 := S5.out.fz 1
          have c0 := S5.out.c0; have c1 := S5.out.c1
          have hl := S5.out.lt
          go_wp2_with fail
          (try simp only [Exit.inBlock, Exit.then]); refine bodyPost_ret (v := .tuple #[stv 0 0, .bool false]) (by simp [results, show Tryd.f34.results = #[.cell 2 33, .tmp 3] from rfl, go_sem, *]) rfl ?_
          refine ⟨by rw [EQ2.out], ?_⟩
          repeat' first | exact H5.out | refine below_put ?_ _ _ _ (by omega)
    · have EQ2 := hid (HBAD.out (.inr ey))
      clear ex ey ix iy HX HY HPR HBAD
      have f0 := S3.out.fz 0; have f1 := S3.out.fz 1
      have c0 := S3.out.c0; have c1 := S3.out.c1
      have hl := S3.out.lt
      go_wp2_with fail
      (try simp only [Exit.inBlock, Exit.then]); refine bodyPost_ret (v := .tuple #[stv 0 0, .bool false]) (by simp [results, show Tryd.f34.results = #[.cell 2 33, .tmp 3] from rfl, go_sem, *]) rfl ?_
      refine ⟨by rw [EQ2.out], ?_⟩
      repeat' first | exact H3.out | refine below_put ?_ _ _ _ (by omega)
  · have EQ2 := hid (HBAD.out (.inl ex))
    clear ex ix HX HY HPR HBAD
    have f0 := S3.out.fz 0; have f1 := S3.out.fz 1
    have c0 := S3.out.c0; have c1 := S3.out.c1
    have hl := S3.out.lt
    go_wp2_with fail
    (try simp only [Exit.inBlock, Exit.then]); refine bodyPost_ret (v := .tuple #[stv 0 0, .bool false]) (by simp [results, show Tryd.f34.results = #[.cell 2 33, .tmp 3] from rfl, go_sem, *]) rfl ?_
    refine ⟨by rw [EQ2.out], ?_⟩
    repeat' first | exact H3.out | refine below_put ?_ _ _ _ (by omega)
theorem SParse_any (s : ByteArray) (w : World) (hs : s.size ≤ 281474976710656) (hp : PowTab w) (he : ErrsAt w) :
    Calls Tryd.prog 34 #[.string s] w fun e w' => e = .returned (.tuple #[stv (rSP s.data.toList).1.1 (rSP s.data.toList).1.2, .bool (rSP s.data.toList).2]) ∧ Below w.heap.size w w' := by
  by_cases hn : Lib.indexByte s.data.toList 64 = -1
  · exact SParse_no s w hs he hn
  · have := idx_ge s.data.toList 64
    exact SParse_in s w hs hp he (Lib.indexByte s.data.toList 64).toNat (by omega)
end Go.Proofs.YtdbghnfmhgjkaaaDoor
