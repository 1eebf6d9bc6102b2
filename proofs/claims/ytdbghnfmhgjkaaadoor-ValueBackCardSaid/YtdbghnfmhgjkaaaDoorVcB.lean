/- Layer 3: Parse at any text: a text in quotes. -/
import Derived.Test.YtdbghnfmhgjkaaaDoorVcP
namespace Go.Proofs.YtdbghnfmhgjkaaaDoor
open Go.RowKit Go.Dio
set_option linter.unusedVariables false
set_option linter.unusedSimpArgs false

set_option maxRecDepth 100000 in
set_option maxHeartbeats 8000000 in
theorem VParse_text (s : ByteArray) (w : World) (hs : s.size ≤ 281474976710656) (hp : PowTab w) (he : ErrsAt w) (b1 : (s.toList == [110, 111, 110, 101]) = false) (b2 : (s.toList == [121, 101, 115]) = false) (b3 : (s.toList == [110, 111]) = false) (hne : s.toList ≠ []) (hpos : 0 < s.size) (c4 : 2 ≤ s.size ∧ s[0].toNat = 34) :
    Calls Tryd.prog 54 #[.string s] w fun e w' => e = .returned (.tuple #[vv (pParse s.toList).1.1 (pParse s.toList).1.2.1 (pParse s.toList).1.2.2, .bool (pParse s.toList).2]) ∧ Below w.heap.size w w' := by
  have Z0 := hid (VAt.new w 0 0 ⟨#[]⟩ _ rfl)
  have H0 := hid (below_alloc1 w (vo 0 0 ⟨#[]⟩))
  have E0 := hid (he.below H0.out)
  have hcut := Tryd.strings_CutSuffix s ⟨#[102]⟩
  have HPW := hid hp
  clear hp he
  have hlen : s.toList.length = s.size := by rw [toList_eq, Array.length_toList]; rfl
  have htl := trim_len s.toList [102]
  obtain ⟨t, ht⟩ : ∃ t, t = mkS (Lib.trimSuffix s.toList [102]) := ⟨_, rfl⟩
  obtain ⟨fx, hfx⟩ : ∃ fx, fx = Lib.hasSuffix s.toList [102] := ⟨_, rfl⟩
  have htz : t.size ≤ 281474976710656 := by rw [ht, mkS_size]; omega
  have hta : t.data.toList = Lib.trimSuffix s.toList [102] := by rw [ht, mkS_toList]
  have HTA := hid hta
  have HF := hid hfx
  have hcut' : ∀ w, Calls Tryd.prog 93 #[.string s, .string ⟨#[102]⟩] w fun e w' => e = .returned (.tuple #[.string t, .bool fx]) ∧ w' = w := fun w => by
    rw [ht, hfx, toList_eq]; exact hcut w (by omega)
  have HC := hid hcut'
  have HLEN := hid hlen
  clear ht hfx hcut hcut' htl hta hlen
  go_enter Tryd.func54, Tryd.ntmps54
  go_wp2_with fail
  refine (HC.out _).mono ?_
  rintro e w1 ⟨rfl, hw⟩
  have hw := hw.symm; subst hw
  go_wp2_with fail
  refine (Atoi_all t _ htz E0.out).mono ?_
  rintro e w2 ⟨⟨n, er, rfl, ho⟩, hb⟩
  have H2 := hid (below_then H0.out hb)
  have Z2 := hid (Z0.out.below hb)
  have HO := hid (show AtoiOut (Lib.trimSuffix s.toList [102]) n er by rw [← HTA.out]; exact ho)
  clear hb ho
  have f0 := Z2.out.fz 0; have f1 := Z2.out.fz 1; have f2 := Z2.out.fz 2
  have z0 := Z2.out.c0; have z1 := Z2.out.c1; have z2 := Z2.out.c2
  have hlz := Z2.out.lt
  have her : (∃ ty pv, er = .iface ty pv) ∨ er = .nilIface := by
    rcases HO.out with ⟨_, h, _⟩ | ⟨_, h, _⟩
    · exact .inr h
    · exact .inl h
  have HNE := hid hne
  have hemp : s.toList.isEmpty = false := by rcases hx : s.toList with _ | _; exact absurd hx hne; rfl
  have hh := head34 s hpos
  · have b4 : ((s[0].toNat : Int) == 34) = true := by simp; omega
    have HPV := hid (pv0_text b1 b2 b3 ⟨by rw [HLEN.out]; exact c4.1, hh.2 c4.2⟩)
    have hext : s.extract 1 (s.size - 1) = mkS ((s.toList.drop 1).take (s.toList.length - 2)) := by
      rw [extract_mk, ← toList_eq, HLEN.out]
      congr 2
    have hsz4 : (s.extract 1 (s.size - 1)).size ≤ 9223372036854775807 := by
      rw [hext, mkS_size]; have hL := HLEN.out; have h1 := List.length_take_le (s.toList.length - 2) (s.toList.drop 1); omega
    have HPV2 := hid (show pv0 s.toList = (3, 0, s.extract 1 (s.size - 1)) by rw [hext]; exact HPV.out)
    have hc41 := c4.1
    clear c4 hh hext
    go_wp2_with fail
    generalize s.extract 1 (s.size - 1) = x at *
    have HB := hid (below_put (below_put (below_put H2.out w.heap.size 0 (.int .i64 3) (Nat.le_refl _)) w.heap.size 1 (.int .i64 0) (Nat.le_refl _)) w.heap.size 2 (.string x) (Nat.le_refl _))
    have Z3 := hid (VAt.set3 Z2.out 3 0 x)
    have hsz3 : (x : ByteArray).size ≤ 9223372036854775807 := hsz4
    refine (VPrint_any 3 0 x _ hsz3 (HPW.out.below HB.out)).mono ?_
    rintro e w4 ⟨rfl, hb⟩
    have H4 := hid (below_then HB.out hb)
    have Z4 := hid (Z3.out.below hb)
    clear hb f0 f1 f2 z0 z1 z2 hlz
    have f0 := Z4.out.fz 0; have f1 := Z4.out.fz 1; have f2 := Z4.out.fz 2
    have z0 := Z4.out.c0; have z1 := Z4.out.c1; have z2 := Z4.out.c2
    have hlz := Z4.out.lt
    by_cases hq : prV 3 0 x = s.toList
    · have hps := mkS_is hq
      have HQ := hid hq
      rw [hps]
      clear hq hps
      go_wp2_with fail
      (try simp only [Exit.inBlock, Exit.then]); refine bodyPost_ret (v := .tuple #[vv 3 0 x, .bool true]) (by simp [results, show Tryd.f54.results = #[.cell 2 49, .tmp 3] from rfl, go_sem, *]) rfl ?_
      refine ⟨by rw [pParse_ok HNE.out HPV2.out HQ.out], ?_⟩
      repeat' first | exact H4.out | refine below_put ?_ _ _ _ (by omega)
    · have hps := mkS_ne hq
      have HQ := hid hq
      clear hq
      generalize mkS (prV 3 0 x) = ps at *
      go_wp2_with fail
      (try simp only [Exit.inBlock, Exit.then]); refine bodyPost_ret (v := .tuple #[vv 0 0 ⟨#[]⟩, .bool false]) (by simp [results, show Tryd.f54.results = #[.cell 2 49, .tmp 3] from rfl, go_sem, *]) rfl ?_
      refine ⟨by rw [pParse_no HPV2.out HQ.out], ?_⟩
      repeat' first | exact H4.out | refine below_put ?_ _ _ _ (by omega)
end Go.Proofs.YtdbghnfmhgjkaaaDoor
