/- Layer 3: Parse at any text: the three words, and nothing. -/
import Derived.Test.YtdbghnfmhgjkaaaDoorVcP
namespace Go.Proofs.YtdbghnfmhgjkaaaDoor
open Go.RowKit Go.Dio
set_option linter.unusedVariables false
set_option linter.unusedSimpArgs false

set_option maxRecDepth 100000 in
set_option maxHeartbeats 8000000 in
theorem VParse_word (s : ByteArray) (w : World) (hs : s.size ≤ 281474976710656) (hp : PowTab w) (he : ErrsAt w) (hA : s.toList = [] ∨ s.toList = [110, 111, 110, 101] ∨ s.toList = [121, 101, 115] ∨ s.toList = [110, 111]) :
    Calls Tryd.prog 54 #[.string s] w fun e w' => e = .returned (.tuple #[vv (pParse s.toList).1.1 (pParse s.toList).1.2.1 (pParse s.toList).1.2.2, .bool (pParse s.toList).2]) ∧ Below w.heap.size w w' := by
  have Z0 := hid (VAt.new w 0 0 ⟨#[]⟩ _ rfl)
  have H0 := hid (below_alloc1 w (vo 0 0 ⟨#[]⟩))
  have E0 := hid (he.below H0.out)
  have hcut := Tryd.strings_CutSuffix s ⟨#[102]⟩
  have HPW := hid hp
  clear hp he
  have hlen : s.toList.length = s.size := by rw [toList_eq, Array.length_toList]; rfl
  have htl := trim_len s.toList [102]
  obtain ⟨t, ht⟩ : ∃ t, t = mkS (Lib.trimSuffix s.toList [102]) := ⟨_, rfl⟩
  obtain ⟨fx, hfx⟩ : ∃ fx, fx = Lib.hasSuffix s.toList [102] := ⟨_, rfl⟩
  have htz : t.size ≤ 281474976710656 := by rw [ht, mkS_size]; omega
  have hta : t.data.toList = Lib.trimSuffix s.toList [102] := by rw [ht, mkS_toList]
  have HTA := hid hta
  have HF := hid hfx
  have hcut' : ∀ w, Calls Tryd.prog 93 #[.string s, .string ⟨#[102]⟩] w fun e w' => e = .returned (.tuple #[.string t, .bool fx]) ∧ w' = w := fun w => by
    rw [ht, hfx, toList_eq]; exact hcut w (by omega)
  have HC := hid hcut'
  have HLEN := hid hlen
  have HAA := hid hA
  clear hA
  clear ht hfx hcut hcut' htl hta hlen
  go_enter Tryd.func54, Tryd.ntmps54
  go_wp2_with fail
  refine (HC.out _).mono ?_
  rintro e w1 ⟨rfl, hw⟩
  have hw := hw.symm; subst hw
  go_wp2_with fail
  refine (Atoi_all t _ htz E0.out).mono ?_
  rintro e w2 ⟨⟨n, er, rfl, ho⟩, hb⟩
  have H2 := hid (below_then H0.out hb)
  have Z2 := hid (Z0.out.below hb)
  have HO := hid (show AtoiOut (Lib.trimSuffix s.toList [102]) n er by rw [← HTA.out]; exact ho)
  clear hb ho
  have f0 := Z2.out.fz 0; have f1 := Z2.out.fz 1; have f2 := Z2.out.fz 2
  have z0 := Z2.out.c0; have z1 := Z2.out.c1; have z2 := Z2.out.c2
  have hlz := Z2.out.lt
  have her : (∃ ty pv, er = .iface ty pv) ∨ er = .nilIface := by
    rcases HO.out with ⟨_, h, _⟩ | ⟨_, h, _⟩
    · exact .inr h
    · exact .inl h
  by_cases hne : s.toList = []
  · have hz : s.size < 2 := by have := HLEN.out; rw [hne] at this; simp at this; omega
    have b1 : (s.toList == [110, 111, 110, 101]) = false := by rw [hne]; rfl
    have b2 : (s.toList == [121, 101, 115]) = false := by rw [hne]; rfl
    have b3 : (s.toList == [110, 111]) = false := by rw [hne]; rfl
    have HE := hid hne
    rcases her with ⟨ty, pv, rfl⟩ | rfl
    all_goals
      cases fx
      all_goals
        have y1 := (VAt.set3 (VAt.set3 Z2.out 1 n ⟨#[]⟩) 0 0 ⟨#[]⟩).c0; have y2 := (VAt.set3 (VAt.set3 Z2.out 1 n ⟨#[]⟩) 0 0 ⟨#[]⟩).c1; have y3 := (VAt.set3 (VAt.set3 Z2.out 1 n ⟨#[]⟩) 0 0 ⟨#[]⟩).c2
        have x1 := (VAt.set3 (VAt.set3 Z2.out 2 n ⟨#[]⟩) 0 0 ⟨#[]⟩).c0; have x2 := (VAt.set3 (VAt.set3 Z2.out 2 n ⟨#[]⟩) 0 0 ⟨#[]⟩).c1; have x3 := (VAt.set3 (VAt.set3 Z2.out 2 n ⟨#[]⟩) 0 0 ⟨#[]⟩).c2
        have Y := hid (And.intro y1 (And.intro y2 (And.intro y3 (And.intro x1 (And.intro x2 x3)))))
        clear y1 y2 y3 x1 x2 x3
        go_wp2_with fail
        obtain ⟨y1, y2, y3, x1, x2, x3⟩ := Y.out
        (try simp only [Exit.inBlock, Exit.then]); refine bodyPost_ret (v := .tuple #[vv 0 0 ⟨#[]⟩, .bool false]) (by simp [results, show Tryd.f54.results = #[.cell 2 49, .tmp 3] from rfl, go_sem, *]) rfl ?_
        refine ⟨by first | rw [pParse_nil HE.out] | rw [pParse_nil rfl], ?_⟩
        repeat' first | exact H2.out | refine below_put ?_ _ _ _ (by omega)
  · have HNE := hid hne
    have hemp : s.toList.isEmpty = false := by rcases hx : s.toList with _ | _; exact absurd hx hne; rfl
    by_cases c1 : s.toList = [110, 111, 110, 101]
    · have b1 : (s.toList == [110, 111, 110, 101]) = true := by rw [c1]; rfl
      have HPV := hid (show pv0 s.toList = (0, 0, ⟨#[]⟩) from if_pos c1)
      clear c1
      go_wp2_with fail
      have HB := hid H2.out
      have Z3 := hid Z2.out
      have hsz3 : (⟨#[]⟩ : ByteArray).size ≤ 9223372036854775807 := by decide
      refine (VPrint_any 0 0 ⟨#[]⟩ _ hsz3 (HPW.out.below HB.out)).mono ?_
      rintro e w4 ⟨rfl, hb⟩
      have H4 := hid (below_then HB.out hb)
      have Z4 := hid (Z3.out.below hb)
      clear hb f0 f1 f2 z0 z1 z2 hlz
      have f0 := Z4.out.fz 0; have f1 := Z4.out.fz 1; have f2 := Z4.out.fz 2
      have z0 := Z4.out.c0; have z1 := Z4.out.c1; have z2 := Z4.out.c2
      have hlz := Z4.out.lt
      by_cases hq : prV 0 0 ⟨#[]⟩ = s.toList
      · have hps := mkS_is hq
        have HQ := hid hq
        rw [hps]
        clear hq hps
        go_wp2_with fail
        (try simp only [Exit.inBlock, Exit.then]); refine bodyPost_ret (v := .tuple #[vv 0 0 ⟨#[]⟩, .bool true]) (by simp [results, show Tryd.f54.results = #[.cell 2 49, .tmp 3] from rfl, go_sem, *]) rfl ?_
        refine ⟨by rw [pParse_ok HNE.out HPV.out HQ.out], ?_⟩
        repeat' first | exact H4.out | refine below_put ?_ _ _ _ (by omega)
      · have hps := mkS_ne hq
        have HQ := hid hq
        clear hq
        generalize mkS (prV 0 0 ⟨#[]⟩) = ps at *
        go_wp2_with fail
        (try simp only [Exit.inBlock, Exit.then]); refine bodyPost_ret (v := .tuple #[vv 0 0 ⟨#[]⟩, .bool false]) (by simp [results, show Tryd.f54.results = #[.cell 2 49, .tmp 3] from rfl, go_sem, *]) rfl ?_
        refine ⟨by rw [pParse_no HPV.out HQ.out], ?_⟩
        repeat' first | exact H4.out | refine below_put ?_ _ _ _ (by omega)
    · have b1 : (s.toList == [110, 111, 110, 101]) = false := by simpa using c1
      by_cases c2 : s.toList = [121, 101, 115]
      · have b2 : (s.toList == [121, 101, 115]) = true := by rw [c2]; rfl
        have HPV := hid (show pv0 s.toList = (4, 1, ⟨#[]⟩) by rw [pv0, if_neg c1, if_pos c2])
        clear c1 c2
        go_wp2_with fail
        have HB := hid (below_put (below_put (below_put H2.out w.heap.size 0 (.int .i64 4) (Nat.le_refl _)) w.heap.size 1 (.int .i64 1) (Nat.le_refl _)) w.heap.size 2 (.string ⟨#[]⟩) (Nat.le_refl _))
        have Z3 := hid (VAt.set3 Z2.out 4 1 ⟨#[]⟩)
        have hsz3 : (⟨#[]⟩ : ByteArray).size ≤ 9223372036854775807 := by decide
        refine (VPrint_any 4 1 ⟨#[]⟩ _ hsz3 (HPW.out.below HB.out)).mono ?_
        rintro e w4 ⟨rfl, hb⟩
        have H4 := hid (below_then HB.out hb)
        have Z4 := hid (Z3.out.below hb)
        clear hb f0 f1 f2 z0 z1 z2 hlz
        have f0 := Z4.out.fz 0; have f1 := Z4.out.fz 1; have f2 := Z4.out.fz 2
        have z0 := Z4.out.c0; have z1 := Z4.out.c1; have z2 := Z4.out.c2
        have hlz := Z4.out.lt
        by_cases hq : prV 4 1 ⟨#[]⟩ = s.toList
        · have hps := mkS_is hq
          have HQ := hid hq
          rw [hps]
          clear hq hps
          go_wp2_with fail
          (try simp only [Exit.inBlock, Exit.then]); refine bodyPost_ret (v := .tuple #[vv 4 1 ⟨#[]⟩, .bool true]) (by simp [results, show Tryd.f54.results = #[.cell 2 49, .tmp 3] from rfl, go_sem, *]) rfl ?_
          refine ⟨by rw [pParse_ok HNE.out HPV.out HQ.out], ?_⟩
          repeat' first | exact H4.out | refine below_put ?_ _ _ _ (by omega)
        · have hps := mkS_ne hq
          have HQ := hid hq
          clear hq
          generalize mkS (prV 4 1 ⟨#[]⟩) = ps at *
          go_wp2_with fail
          (try simp only [Exit.inBlock, Exit.then]); refine bodyPost_ret (v := .tuple #[vv 0 0 ⟨#[]⟩, .bool false]) (by simp [results, show Tryd.f54.results = #[.cell 2 49, .tmp 3] from rfl, go_sem, *]) rfl ?_
          refine ⟨by rw [pParse_no HPV.out HQ.out], ?_⟩
          repeat' first | exact H4.out | refine below_put ?_ _ _ _ (by omega)
      · have b2 : (s.toList == [121, 101, 115]) = false := by simpa using c2
        by_cases c3 : s.toList = [110, 111]
        · have b3 : (s.toList == [110, 111]) = true := by rw [c3]; rfl
          have HPV := hid (show pv0 s.toList = (4, 0, ⟨#[]⟩) by rw [pv0, if_neg c1, if_neg c2, if_pos c3])
          clear c1 c2 c3
          go_wp2_with fail
          have HB := hid (below_put H2.out w.heap.size 0 (.int .i64 4) (Nat.le_refl _))
          have Z3 := hid (VAt.set0 Z2.out 4)
          have hsz3 : (⟨#[]⟩ : ByteArray).size ≤ 9223372036854775807 := by decide
          refine (VPrint_any 4 0 ⟨#[]⟩ _ hsz3 (HPW.out.below HB.out)).mono ?_
          rintro e w4 ⟨rfl, hb⟩
          have H4 := hid (below_then HB.out hb)
          have Z4 := hid (Z3.out.below hb)
          clear hb f0 f1 f2 z0 z1 z2 hlz
          have f0 := Z4.out.fz 0; have f1 := Z4.out.fz 1; have f2 := Z4.out.fz 2
          have z0 := Z4.out.c0; have z1 := Z4.out.c1; have z2 := Z4.out.c2
          have hlz := Z4.out.lt
          by_cases hq : prV 4 0 ⟨#[]⟩ = s.toList
          · have hps := mkS_is hq
            have HQ := hid hq
            rw [hps]
            clear hq hps
            go_wp2_with fail
            (try simp only [Exit.inBlock, Exit.then]); refine bodyPost_ret (v := .tuple #[vv 4 0 ⟨#[]⟩, .bool true]) (by simp [results, show Tryd.f54.results = #[.cell 2 49, .tmp 3] from rfl, go_sem, *]) rfl ?_
            refine ⟨by rw [pParse_ok HNE.out HPV.out HQ.out], ?_⟩
            repeat' first | exact H4.out | refine below_put ?_ _ _ _ (by omega)
          · have hps := mkS_ne hq
            have HQ := hid hq
            clear hq
            generalize mkS (prV 4 0 ⟨#[]⟩) = ps at *
            go_wp2_with fail
            (try simp only [Exit.inBlock, Exit.then]); refine bodyPost_ret (v := .tuple #[vv 0 0 ⟨#[]⟩, .bool false]) (by simp [results, show Tryd.f54.results = #[.cell 2 49, .tmp 3] from rfl, go_sem, *]) rfl ?_
            refine ⟨by rw [pParse_no HPV.out HQ.out], ?_⟩
            repeat' first | exact H4.out | refine below_put ?_ _ _ _ (by omega)
        · have b3 : (s.toList == [110, 111]) = false := by simpa using c3
          rcases HAA.out with h | h | h | h
          · exact absurd h HNE.out
          · exact absurd h c1
          · exact absurd h c2
          · exact absurd h c3
end Go.Proofs.YtdbghnfmhgjkaaaDoor
