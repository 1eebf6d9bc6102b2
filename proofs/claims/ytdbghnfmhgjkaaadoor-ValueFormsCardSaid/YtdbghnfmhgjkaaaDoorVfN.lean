/- VfC VfE VcF PureV VfD VfG in one. -/
import Derived.Test.YtdbghnfmhgjkaaaDoorVfA
import Derived.Test.YtdbghnfmhgjkaaaDoorVcP
import Derived.Test.YtdbghnfmhgjkaaaDoorPureS
import Derived.Test.YtdbghnfmhgjkaaaDoorStF1
import Derived.Test.YtdbghnfmhgjkaaaDoorStF2
/- VfC: The document's Put of a value. -/
namespace Go.Proofs.YtdbghnfmhgjkaaaDoor
open Go.RowKit Go.Dio
set_option linter.unusedVariables false
set_option linter.unusedSimpArgs false

theorem rVPut_no (k n : Int) (s : ByteArray) (w : World) (hs : s.size ≤ 9223372036854775807) (hr : vright k n s = false) : Calls Tryd.prog 56 #[vv k n s] w fun e w' => e = .returned (.slice none 0 0) ∧ Below w.heap.size w w' := by
  go_enter Tryd.func56, Tryd.ntmps56
  go_wp2_with fail
  refine (rVRight_any k n s _ hs).mono ?_
  rw [hr]
  rintro e w1 ⟨rfl, hb1⟩
  have H1 := hid (below_then (below_alloc1 _ _) hb1)
  clear hb1
  go_wp2_with fail
  go_ret
  exact ⟨rfl, H1.out⟩

set_option maxRecDepth 100000 in
set_option maxHeartbeats 2000000 in
theorem rVPut_ok (k n : Int) (s : ByteArray) (w : World) (hs : s.size ≤ 9223372036854775807) (hr : vright k n s = true) : Calls Tryd.prog 56 #[vv k n s] w (OutB 5 w (vB k n s)) := by
  have hc := vright_cases hr
  have V0 := hid (VAt.new w k n s _ rfl)
  have hk : 0 ≤ k ∧ k < 5 := by rcases hc with ⟨rfl, _⟩ | ⟨h | h, _⟩ | ⟨rfl, _⟩ | ⟨rfl, _⟩ <;> omega
  obtain ⟨kn, rfl⟩ := Int.eq_ofNat_of_zero_le hk.1
  have HC := hid hc
  have HR := hid hr
  clear hc hr
  go_enter Tryd.func56, Tryd.ntmps56
  go_wp2_with fail
  refine (rVRight_any kn n s _ hs).mono ?_
  rw [HR.out]
  rintro e w1 ⟨rfl, hb1⟩
  have H1 := hid (below_then (below_alloc1 _ _) hb1)
  have V1 := hid (V0.out.below hb1)
  clear hb1
  have a0 := V1.out.c0
  go_wp2_with fail
  refine (rNum_ok kn _ (by omega)).mono ?_
  rintro e w2 ⟨v1, rfl, ho1, hb2⟩
  have H2 := hid (below_then H1.out hb2)
  have V2 := hid (V1.out.below hb2)
  have O2 := hid (ho1.lower H1.out.size)
  have l1 := numB_le kn (by omega)
  clear hb2 a0 ho1
  have a0 := V2.out.c0; have a1 := V2.out.c1; have a2 := V2.out.c2
  rcases HC.out with ⟨hk0, rfl, rfl⟩ | ⟨hk12, hn, rfl⟩ | ⟨hk3, rfl, hg⟩ | ⟨hk4, hn, rfl⟩
  · obtain rfl : kn = 0 := by omega
    go_wp2_with fail
    go_ret
    exact ⟨_, rfl, by rw [vB]; simpa using O2.out, H2.out⟩
  · have hzz : 0 ≤ zig n ∧ zig n < 281474976710656 := by unfold zig; split <;> omega
    obtain ⟨z, hz⟩ := Int.eq_ofNat_of_zero_le hzz.1
    have hvB : vB (kn : Int) n ⟨#[]⟩ = numB kn ++ numB z := by rw [vB, if_pos hk12, hz]; simp
    have hzb : z < 281474976710656 := by omega
    have HVB := hid hvB
    have HZ := hid hz
    clear hvB hz
    have hk' : kn = 1 ∨ kn = 2 := by omega
    clear hk12
    by_cases hneg : n < 0
    · have hx : -2 * n - 1 = (z : Int) := by rw [← HZ.out, zig, if_pos hneg]; omega
      rcases hk' with rfl | rfl
      all_goals
        go_wp2_with fail
        refine (rNum_ok z _ (by omega)).mono ?_
        rintro e w3 ⟨v2, rfl, ho2, hb3⟩
        obtain ⟨A2, n2, c2, rfl, hI2, -⟩ := ho2.form
        have H3 := hid (below_then H2.out hb3)
        have O3 := hid (O2.out.below hb3)
        have I3 := hid hI2
        have l2 : n2 ≤ 8 := by rw [← hI2.len]; exact numB_le z (by omega)
        clear hb3 ho2 hI2
        go_wp2_with (at_builtin; refine wpList_append_b (w0 := w) w.heap.size rfl _ _ 55 5 rfl Tryd.underlying55 info_u8 _ n2 _ (numB z) A2 c2 rfl rfl O3.out I3.out H3.out H3.out.size (by omega) ?_)
        intro v4 w4 ho4 hb4 hg4 hat4
        clear hg4 hat4
        go_wp2
        go_ret
        exact ⟨_, rfl, by rw [HVB.out]; exact ho4, hb4⟩
    · have hx : 2 * n = (z : Int) := by rw [← HZ.out, zig, if_neg hneg]
      rcases hk' with rfl | rfl
      all_goals
        go_wp2_with fail
        refine (rNum_ok z _ (by omega)).mono ?_
        rintro e w3 ⟨v2, rfl, ho2, hb3⟩
        obtain ⟨A2, n2, c2, rfl, hI2, -⟩ := ho2.form
        have H3 := hid (below_then H2.out hb3)
        have O3 := hid (O2.out.below hb3)
        have I3 := hid hI2
        have l2 : n2 ≤ 8 := by rw [← hI2.len]; exact numB_le z (by omega)
        clear hb3 ho2 hI2
        go_wp2_with (at_builtin; refine wpList_append_b (w0 := w) w.heap.size rfl _ _ 55 5 rfl Tryd.underlying55 info_u8 _ n2 _ (numB z) A2 c2 rfl rfl O3.out I3.out H3.out H3.out.size (by omega) ?_)
        intro v4 w4 ho4 hb4 hg4 hat4
        clear hg4 hat4
        go_wp2
        go_ret
        exact ⟨_, rfl, by rw [HVB.out]; exact ho4, hb4⟩
  · obtain rfl : kn = 3 := by omega
    have hsz := goodB_len hg
    have HG := hid hg
    clear hg
    go_wp2_with fail
    refine (rText_ok s _ (by omega)).mono ?_
    rintro e w3 ⟨v2, rfl, ho2, hb3⟩
    obtain ⟨A2, n2, c2, rfl, hI2, -⟩ := ho2.form
    have H3 := hid (below_then H2.out hb3)
    have O3 := hid (O2.out.below hb3)
    have I3 := hid hI2
    have l2 : n2 ≤ 100 := by
      have e : s.data.toList.length = s.size := by rw [Array.length_toList]; rfl
      rw [← hI2.len, textB, List.length_append, e]
      have := numB_le s.size (by omega)
      omega
    clear hb3 ho2 hI2
    go_wp2_with (at_builtin; refine wpList_append_b (w0 := w) w.heap.size rfl _ _ 55 5 rfl Tryd.underlying55 info_u8 _ n2 (numB 3) (textB s.data.toList) A2 c2 rfl rfl O3.out I3.out H3.out H3.out.size (by omega) ?_)
    intro v4 w4 ho4 hb4 hg4 hat4
    clear hg4 hat4
    go_wp2
    go_ret
    exact ⟨_, rfl, by rw [vB]; simpa using ho4, hb4⟩
  · obtain rfl : kn = 4 := by omega
    obtain ⟨m, hm⟩ := Int.eq_ofNat_of_zero_le (show 0 ≤ n by omega)
    subst hm
    go_wp2_with fail
    refine (rNum_ok m _ (by omega)).mono ?_
    rintro e w3 ⟨v2, rfl, ho2, hb3⟩
    obtain ⟨A2, n2, c2, rfl, hI2, -⟩ := ho2.form
    have H3 := hid (below_then H2.out hb3)
    have O3 := hid (O2.out.below hb3)
    have I3 := hid hI2
    have l2 : n2 ≤ 8 := by rw [← hI2.len]; exact numB_le m (by omega)
    clear hb3 ho2 hI2
    go_wp2_with (at_builtin; refine wpList_append_b (w0 := w) w.heap.size rfl _ _ 55 5 rfl Tryd.underlying55 info_u8 _ n2 (numB 4) (numB m) A2 c2 rfl rfl O3.out I3.out H3.out H3.out.size (by omega) ?_)
    intro v4 w4 ho4 hb4 hg4 hat4
    clear hg4 hat4
    go_wp2
    go_ret
    exact ⟨_, rfl, by rw [vB]; simpa using ho4, hb4⟩

end Go.Proofs.YtdbghnfmhgjkaaaDoor
/- VfE: Right8: the program's, the document's; Same. -/
namespace Go.Proofs.YtdbghnfmhgjkaaaDoor
open Go.RowKit Go.Dio
set_option linter.unusedVariables false
set_option linter.unusedSimpArgs false

/-- The kind of a property. -/
def kind8 (p : Int) : Int := if p = 1 ∨ p = 2 then 4 else if p = 3 then 3 else if 4 ≤ p ∧ p ≤ 7 then 2 else if p = 8 then 1 else -1
def vright8 (p k n : Int) (s : ByteArray) : Bool := decide (kind8 p ≠ -1) && (vright k n s && (decide (k = 0) || decide (k = kind8 p)))
theorem prop_cases (p : Int) : p = 1 ∨ p = 2 ∨ p = 3 ∨ p = 4 ∨ p = 5 ∨ p = 6 ∨ p = 7 ∨ p = 8 ∨ ((p == 1) = false ∧ (p == 2) = false ∧ (p == 3) = false ∧ (p == 4) = false ∧ (p == 5) = false ∧ (p == 6) = false ∧ (p == 7) = false ∧ (p == 8) = false) := by
  simp only [beq_eq_false_iff_ne]; omega
theorem vright8_out {p k n : Int} {s : ByteArray} (h : (p == 1) = false ∧ (p == 2) = false ∧ (p == 3) = false ∧ (p == 4) = false ∧ (p == 5) = false ∧ (p == 6) = false ∧ (p == 7) = false ∧ (p == 8) = false) : vright8 p k n s = false := by
  simp only [beq_eq_false_iff_ne] at h
  have : kind8 p = -1 := by unfold kind8; rw [if_neg (by omega), if_neg (by omega), if_neg (by omega), if_neg (by omega)]
  simp [vright8, this]

theorem k_or (k c : Int) (h : ¬ k = 0) : (k == 0 || k == c) = decide (k = c) := by rw [Bool.eq_iff_iff]; simp [h]

set_option maxRecDepth 100000 in
set_option maxHeartbeats 4000000 in
theorem VRight8_any (p k n : Int) (s : ByteArray) (w : World) (hs : s.size ≤ 9223372036854775807) :
    Calls Tryd.prog 65 #[.int .i64 p, vv k n s] w fun e w' => e = .returned (.bool (vright8 p k n s)) ∧ Below w.heap.size w w' := by
  have V0 := hid (VAt.new w k n s _ rfl)
  rcases prop_cases p with rfl | rfl | rfl | rfl | rfl | rfl | rfl | rfl | hp
  case inr.inr.inr.inr.inr.inr.inr.inr =>
    have F := hid (vright8_out (k := k) (n := n) (s := s) hp)
    obtain ⟨p1, p2, p3, p4, p5, p6, p7, p8⟩ := hp
    go_enter Tryd.func65, Tryd.ntmps65
    go_wp2_with fail
    go_ret
    rw [F.out]
    exact ⟨rfl, below_alloc1 _ _⟩
  all_goals
    go_enter Tryd.func65, Tryd.ntmps65
    go_wp2_with fail
    refine (VRight_any k n s _ hs).mono ?_
    rcases hv : vright k n s with _ | _
    all_goals
      have HV := hid hv
      rintro e w1 ⟨rfl, hb⟩
      have H1 := hid (below_then (below_alloc1 _ _) hb)
      have V1 := hid (V0.out.below hb)
      clear hb hv
      have a0 := V1.out.c0
      go_wp2_with fail
      all_goals
        go_ret
        refine ⟨?_, H1.out⟩
        first
        | (simp [vright8, kind8, HV.out]; done)
        | (simp [vright8, kind8, HV.out, *]; done)
        | (simp [vright8, kind8, HV.out]; rfl)
        | (simp [vright8, kind8, HV.out, *]; exact k_or _ _ (by assumption))
        | (simp [vright8, kind8, HV.out]; omega)
        | (simp only [beq_eq_false_iff_ne] at *; simp [vright8, kind8, HV.out, *]; done)

set_option maxRecDepth 100000 in
set_option maxHeartbeats 4000000 in
theorem rVRight8_any (p k n : Int) (s : ByteArray) (w : World) (hs : s.size ≤ 9223372036854775807) :
    Calls Tryd.prog 66 #[.int .i64 p, vv k n s] w fun e w' => e = .returned (.bool (vright8 p k n s)) ∧ Below w.heap.size w w' := by
  have V0 := hid (VAt.new w k n s _ rfl)
  rcases prop_cases p with rfl | rfl | rfl | rfl | rfl | rfl | rfl | rfl | hp
  case inr.inr.inr.inr.inr.inr.inr.inr =>
    have F := hid (vright8_out (k := k) (n := n) (s := s) hp)
    obtain ⟨p1, p2, p3, p4, p5, p6, p7, p8⟩ := hp
    go_enter Tryd.func66, Tryd.ntmps66
    go_wp2_with fail
    go_ret
    rw [F.out]
    exact ⟨rfl, below_alloc1 _ _⟩
  all_goals
    go_enter Tryd.func66, Tryd.ntmps66
    go_wp2_with fail
    refine (rVRight_any k n s _ hs).mono ?_
    rcases hv : vright k n s with _ | _
    all_goals
      have HV := hid hv
      rintro e w1 ⟨rfl, hb⟩
      have H1 := hid (below_then (below_alloc1 _ _) hb)
      have V1 := hid (V0.out.below hb)
      clear hb hv
      have a0 := V1.out.c0
      go_wp2_with fail
      all_goals
        go_ret
        refine ⟨?_, H1.out⟩
        first
        | (simp [vright8, kind8, HV.out]; done)
        | (simp [vright8, kind8, HV.out, *]; done)
        | (simp [vright8, kind8, HV.out]; rfl)
        | (simp [vright8, kind8, HV.out, *]; exact k_or _ _ (by assumption))
        | (simp [vright8, kind8, HV.out]; omega)
        | (simp only [beq_eq_false_iff_ne] at *; simp [vright8, kind8, HV.out, *]; done)
set_option maxRecDepth 100000 in
theorem VSame_any (k n : Int) (s : ByteArray) (k' n' : Int) (s' : ByteArray) (w : World) :
    Calls Tryd.prog 62 #[vv k n s, vv k' n' s'] w fun e w' => e = .returned (.bool (k == k' && (n == n' && s.toList == s'.toList))) ∧ Below w.heap.size w w' := by
  go_enter Tryd.func62, Tryd.ntmps62
  go_wp2_with fail
  all_goals
    go_ret
    refine ⟨?_, below_alloc2 _ _ _⟩
    first
    | rfl
    | (simp [*]; done)
    | (simp_all; done)
    | (simp only [beq_eq_false_iff_ne] at *; simp [*]; done)
end Go.Proofs.YtdbghnfmhgjkaaaDoor
/- VcF: A value's text is parsed as it was written. -/
namespace Go.Proofs.YtdbghnfmhgjkaaaDoor
open Go.RowKit Go.Dio
set_option linter.unusedVariables false
set_option linter.unusedSimpArgs false

theorem suff_no {l : List UInt8} (h : ∀ x ∈ l, x ≠ 102) : Lib.hasSuffix l [102] = false := by
  unfold Lib.hasSuffix
  rw [Bool.eq_false_iff]
  intro hs
  have := List.isSuffixOf_iff_suffix.1 hs
  exact h 102 (this.subset (by simp)) rfl
theorem suff_yes (l : List UInt8) : Lib.hasSuffix (l ++ [102]) [102] = true := by
  unfold Lib.hasSuffix
  exact List.isSuffixOf_iff_suffix.2 (List.suffix_append _ _)
theorem itoa_ne102 {n : Int} {x : UInt8} (h : x ∈ Lib.itoa n) : x ≠ 102 := fun e => by
  have := itoa_mem h; subst e; simp at this
theorem itoa_cons (n : Int) : ∃ c r, Lib.itoa n = c :: r ∧ (c.toNat = 45 ∨ 48 ≤ c.toNat ∧ c.toNat ≤ 57) := by
  rcases hx : Lib.itoa n with _ | ⟨c, r⟩
  · unfold Lib.itoa at hx
    split at hx
    · cases hx
    · obtain ⟨c, r, e⟩ := dig_cons n.toNat
      rw [e] at hx; cases hx
  · exact ⟨c, r, rfl, itoa_mem (n := n) (by rw [hx]; simp)⟩
theorem first_no {c : UInt8} {r q : List UInt8} {d : UInt8} (hc : c.toNat = 45 ∨ 48 ≤ c.toNat ∧ c.toNat ≤ 57) (hd : 58 ≤ d.toNat) : ((c :: r) == (d :: q)) = false := by
  rw [beq_eq_false_iff_ne]
  intro e
  injection e with e1 _
  subst e1
  omega
theorem pv0_num {l : List UInt8} {c : UInt8} {r : List UInt8} (hl : l = c :: r) (hc : c.toNat = 45 ∨ 48 ≤ c.toNat ∧ c.toNat ≤ 57) :
    pv0 l = match Lib.atoiAll (Lib.trimSuffix l [102]) with
      | .ok n => if Lib.hasSuffix l [102] = true then (2, n, ⟨#[]⟩) else (1, n, ⟨#[]⟩)
      | _ => (0, 0, ⟨#[]⟩) := by
  subst hl
  refine pv0_no (first_no hc (by decide)) (first_no hc (by decide)) (first_no hc (by decide)) ?_
  rintro ⟨_, h⟩
  simp only [List.head?_cons, Option.some.injEq] at h
  subst h
  simp at hc
theorem prV_ok {k n : Int} {s : ByteArray} (h : vright k n s = true) : prV k n s = (if k = 0 then [110, 111, 110, 101] else if k = 3 then 34 :: (s.data.toList ++ [34]) else if k = 1 then Lib.itoa n else if k = 2 then Lib.itoa n ++ [102] else if n = 1 then [121, 101, 115] else [110, 111]) := by rw [prV, if_pos h]
theorem pv0_back {k n : Int} {s : ByteArray} (h : vright k n s = true) : pv0 (prV k n s) = (k, n, s) ∧ prV k n s ≠ [] := by
  have hp := prV_ok h
  rcases vright_cases h with ⟨rfl, rfl, rfl⟩ | ⟨hk, hn, rfl⟩ | ⟨rfl, rfl, hg⟩ | ⟨rfl, hn, rfl⟩
  · rw [hp, if_pos rfl]
    exact ⟨rfl, by simp⟩
  · have hat := atoi_itoa n (by omega) (by omega)
    obtain ⟨c, r, hc, hcc⟩ := itoa_cons n
    rcases hk with rfl | rfl
    · rw [hp, if_neg (by decide), if_neg (by decide), if_pos rfl]
      have hs : Lib.hasSuffix (Lib.itoa n) [102] = false := suff_no fun x hx => itoa_ne102 hx
      have ht : Lib.trimSuffix (Lib.itoa n) [102] = Lib.itoa n := by unfold Lib.trimSuffix; rw [if_neg (by simp [hs])]
      refine ⟨?_, by rw [hc]; simp⟩
      rw [pv0_num hc hcc, ht, hat, hs]
      rfl
    · rw [hp, if_neg (by decide), if_neg (by decide), if_neg (by decide), if_pos rfl]
      have hs := suff_yes (Lib.itoa n)
      have ht : Lib.trimSuffix (Lib.itoa n ++ [102]) [102] = Lib.itoa n := by
        unfold Lib.trimSuffix; rw [if_pos hs, List.length_append]; simp
      refine ⟨?_, by simp⟩
      rw [pv0_num (c := c) (r := r ++ [102]) (by rw [hc]; rfl) hcc, ht, hat, hs]
      rfl
  · rw [hp, if_neg (by decide), if_pos rfl]
    refine ⟨?_, by simp⟩
    rw [pv0_text (by rw [beq_eq_false_iff_ne]; simp) (by rw [beq_eq_false_iff_ne]; simp) (by rw [beq_eq_false_iff_ne]; simp) ⟨by simp, rfl⟩]
    simp [mkS_data]
  · rcases hn with rfl | rfl
    · rw [hp, if_neg (by decide), if_neg (by decide), if_neg (by decide), if_neg (by decide), if_neg (by decide)]
      exact ⟨rfl, by simp⟩
    · rw [hp, if_neg (by decide), if_neg (by decide), if_neg (by decide), if_neg (by decide), if_pos rfl]
      exact ⟨rfl, by simp⟩
theorem pParse_back {k n : Int} {s : ByteArray} (h : vright k n s = true) : pParse (mkS (prV k n s)).toList = ((k, n, s), true) := by
  obtain ⟨h1, h2⟩ := pv0_back h
  have e : (mkS (prV k n s)).toList = prV k n s := by rw [toList_eq, mkS_toList]
  rw [e]
  exact pParse_ok h2 h1 rfl
theorem pParse_empty : pParse (mkS []).toList = ((0, 0, ⟨#[]⟩), false) := pParse_nil (by rw [toList_eq, mkS_toList])
/-- What is parsed may be, and is written as it was. -/
theorem pParse_true {l : List UInt8} {k n : Int} {t : ByteArray} (h : pParse l = ((k, n, t), true)) : vright k n t = true ∧ prV k n t = l := by
  unfold pParse at h
  split at h
  · simp at h
  · rename_i hq
    simp only [Prod.mk.injEq, and_true] at h
    simp only [not_or, ne_eq, Decidable.not_not] at hq
    obtain ⟨h0, h1⟩ := hq
    rw [h] at h1
    simp only at h1
    refine ⟨?_, h1⟩
    rcases hv : vright k n t with _ | _
    · have : prV k n t = [] := by rw [prV, if_neg (by simp [hv])]
      rw [this] at h1
      exact absurd h1.symm h0
    · rfl
theorem prV_len {k n : Int} {s : ByteArray} : (mkS (prV k n s)).size ≤ 70 := by
  rw [mkS_size]
  rcases hv : vright k n s with _ | _
  · rw [prV, if_neg (by simp [hv])]; simp
  · have hp := prV_ok hv
    rcases vright_cases hv with ⟨rfl, rfl, rfl⟩ | ⟨hk, hn, rfl⟩ | ⟨rfl, rfl, hg⟩ | ⟨rfl, hn, rfl⟩
    · rw [hp, if_pos rfl]; simp
    · have := itoa_len n (by omega) (by omega)
      rcases hk with rfl | rfl
      · rw [hp, if_neg (by decide), if_neg (by decide), if_pos rfl]; omega
      · rw [hp, if_neg (by decide), if_neg (by decide), if_neg (by decide), if_pos rfl, List.length_append, List.length_singleton]; omega
    · have := goodB_len hg
      have e : s.data.size = s.size := rfl
      rw [hp, if_neg (by decide), if_pos rfl, List.length_cons, List.length_append, Array.length_toList, List.length_singleton]; omega
    · rcases hn with rfl | rfl
      · rw [hp, if_neg (by decide), if_neg (by decide), if_neg (by decide), if_neg (by decide), if_neg (by decide)]; simp
      · rw [hp, if_neg (by decide), if_neg (by decide), if_neg (by decide), if_neg (by decide), if_pos rfl]; simp
end Go.Proofs.YtdbghnfmhgjkaaaDoor
/- PureV: The document's forms of a value as text, in plain lists. -/
namespace Go.Proofs.YtdbghnfmhgjkaaaDoor
open Go.RowKit Go.Dio
set_option linter.unusedVariables false
set_option linter.unusedSimpArgs false

/-- Two ways to cut one text at the last 64. -/
theorem app64r {a a' b b' : List UInt8} (h1 : ∀ x ∈ b, x ≠ 64) (h2 : ∀ x ∈ b', x ≠ 64) (h : a ++ 64 :: b = a' ++ 64 :: b') : a = a' ∧ b = b' := by
  have e := congrArg List.reverse h
  simp only [List.reverse_append, List.reverse_cons, List.append_assoc, List.singleton_append] at e
  obtain ⟨e1, e2⟩ := app64 (fun x hx => h1 x (List.mem_reverse.1 hx)) (fun x hx => h2 x (List.mem_reverse.1 hx)) e
  exact ⟨List.reverse_inj.1 e2, List.reverse_inj.1 e1⟩
/-- The document's number with a sign. -/
def rVnum (l : List UInt8) : Int × Bool :=
  if l.head? = some 45 then (-(rSP (l.drop 1 ++ [64, 48])).1.1, (rSP (l.drop 1 ++ [64, 48])).2 && decide (0 < (rSP (l.drop 1 ++ [64, 48])).1.1))
  else ((rSP (l ++ [64, 48])).1.1, (rSP (l ++ [64, 48])).2)
/-- What the document parses. -/
def rPV (l : List UInt8) : (Int × Int × ByteArray) × Bool :=
  if l = [110, 111, 110, 101] then ((0, 0, ⟨#[]⟩), true) else if l = [121, 101, 115] then ((4, 1, ⟨#[]⟩), true) else if l = [110, 111] then ((4, 0, ⟨#[]⟩), true)
  else if 2 ≤ l.length ∧ l.head? = some 34 ∧ l.getLast? = some 34 then
    (if goodB (mkS ((l.drop 1).take (l.length - 2))) = true then ((3, 0, mkS ((l.drop 1).take (l.length - 2))), true) else ((0, 0, ⟨#[]⟩), false))
  else if l.getLast? = some 102 then (if (rVnum l.dropLast).2 = true then ((2, (rVnum l.dropLast).1, ⟨#[]⟩), true) else ((0, 0, ⟨#[]⟩), false))
  else (if (rVnum l).2 = true then ((1, (rVnum l).1, ⟨#[]⟩), true) else ((0, 0, ⟨#[]⟩), false))
theorem rPV_false {l : List UInt8} (h : (rPV l).2 = false) : rPV l = ((0, 0, ⟨#[]⟩), false) := by
  unfold rPV at h ⊢
  repeat' split
  all_goals simp_all
theorem itoa_zero : Lib.itoa 0 = [48] := by rw [itoa_small (by omega) (by omega)]; rfl
theorem rSP_zero {l : List UInt8} {x y : Int} (h : rSP (l ++ [64, 48]) = ((x, y), true)) : l = Lib.itoa x ∧ 0 ≤ x ∧ x ≤ 1099511627776 := by
  obtain ⟨h1, h2⟩ := rSP_true h
  obtain ⟨g0, g1, g2, g3⟩ := sright_bd h1
  rw [prS] at h2
  obtain ⟨e1, -⟩ := app64r (fun z hz => itoa_no64 hz) (b' := [48]) (fun z hz => by simp at hz; subst hz; decide) h2
  exact ⟨e1.symm, g0, g1⟩
theorem rSP_of {n : Int} (h0 : 0 ≤ n) (h1 : n ≤ 1099511627776) : rSP (Lib.itoa n ++ [64, 48]) = ((n, 0), true) := by
  have := rSP_pr (x := n) (y := 0) (by simp [sright]; omega)
  rwa [prS, itoa_zero] at this
theorem rVnum_true {l : List UInt8} {n : Int} (h : rVnum l = (n, true)) : l = Lib.itoa n ∧ -1099511627776 ≤ n ∧ n ≤ 1099511627776 := by
  unfold rVnum at h
  split at h
  · rename_i hh
    rcases hr : rSP (l.drop 1 ++ [64, 48]) with ⟨⟨x, y⟩, b⟩
    rw [hr] at h
    simp only [Prod.mk.injEq, Bool.and_eq_true, decide_eq_true_eq] at h
    obtain ⟨rfl, rfl, hx⟩ := h
    obtain ⟨e, h0, h1⟩ := rSP_zero hr
    refine ⟨?_, by omega, by omega⟩
    rw [itoa_minus (by omega), Int.neg_neg, ← e]
    rcases l with _ | ⟨a, t⟩
    · simp at hh
    · simp at hh; subst hh; rfl
  · rcases hr : rSP (l ++ [64, 48]) with ⟨⟨x, y⟩, b⟩
    rw [hr] at h
    simp only [Prod.mk.injEq] at h
    obtain ⟨rfl, rfl⟩ := h
    obtain ⟨e, h0, h1⟩ := rSP_zero hr
    exact ⟨e, by omega, by omega⟩
theorem itoa_head {n : Int} (h : 0 ≤ n) : (Lib.itoa n).head? ≠ some 45 := by
  obtain ⟨u, rfl⟩ := Int.eq_ofNat_of_zero_le h
  rw [Lib.itoa_nonneg]
  obtain ⟨c, r, e⟩ := dig_cons u
  rw [e]
  intro hc
  have : c = 45 := by simpa using hc
  have hm := dig_mem u c (by rw [e]; exact List.mem_cons_self ..)
  subst this
  simp at hm
theorem rVnum_itoa {n : Int} (h0 : -1099511627776 ≤ n) (h1 : n ≤ 1099511627776) : rVnum (Lib.itoa n) = (n, true) := by
  unfold rVnum
  by_cases hn : n < 0
  · have e := itoa_minus hn
    rw [if_pos (by rw [e]; rfl)]
    have e2 : (Lib.itoa n).drop 1 = Lib.itoa (-n) := by rw [e]; rfl
    rw [e2, rSP_of (by omega) (by omega)]
    simp; omega
  · rw [if_neg (itoa_head (by omega)), rSP_of (by omega) (by omega)]
theorem last_of {l : List UInt8} {c : UInt8} (h : l.getLast? = some c) : l = l.dropLast ++ [c] := by
  have hne : l ≠ [] := fun e => by rw [e] at h; simp at h
  rw [List.getLast?_eq_some_getLast hne, Option.some.injEq] at h
  rw [← h, List.dropLast_concat_getLast hne]
theorem vright_numof {k n : Int} (hk : k = 1 ∨ k = 2) (h0 : -1099511627776 ≤ n) (h1 : n ≤ 1099511627776) : vright k n ⟨#[]⟩ = true := by
  rcases hk with rfl | rfl <;> simp [vright] <;> omega
theorem text_of {l : List UInt8} (h1 : 2 ≤ l.length) (h2 : l.head? = some 34) (h3 : l.getLast? = some 34) : 34 :: ((l.drop 1).take (l.length - 2) ++ [34]) = l := by
  rcases l with _ | ⟨a, t⟩
  · simp at h2
  · have ha : a = 34 := by simpa using h2
    subst ha
    have ht : t ≠ [] := fun e => by subst e; simp at h1
    have hl : t.getLast? = some 34 := by
      rcases t with _ | ⟨b, r⟩
      · exact absurd rfl ht
      · simpa using h3
    have e := last_of hl
    have hd : (34 :: t).length - 2 = t.dropLast.length := by simp
    rw [hd, List.drop_succ_cons, List.drop_zero]
    conv => lhs; rw [e]
    rw [List.dropLast_concat, List.take_left' rfl, ← e]
theorem rPV_true {l : List UInt8} {k n : Int} {t : ByteArray} (h : rPV l = ((k, n, t), true)) : vright k n t = true ∧ prV k n t = l := by
  unfold rPV at h
  split at h
  · rename_i hl; simp only [Prod.mk.injEq, and_true] at h; obtain ⟨rfl, rfl, rfl⟩ := h; subst hl
    have hv : vright 0 0 ⟨#[]⟩ = true := by simp [vright]
    exact ⟨hv, by rw [prV_ok hv]; rfl⟩
  split at h
  · rename_i hl; simp only [Prod.mk.injEq, and_true] at h; obtain ⟨rfl, rfl, rfl⟩ := h; subst hl
    have hv : vright 4 1 ⟨#[]⟩ = true := by simp [vright]
    exact ⟨hv, by rw [prV_ok hv]; rfl⟩
  split at h
  · rename_i hl; simp only [Prod.mk.injEq, and_true] at h; obtain ⟨rfl, rfl, rfl⟩ := h; subst hl
    have hv : vright 4 0 ⟨#[]⟩ = true := by simp [vright]
    exact ⟨hv, by rw [prV_ok hv]; rfl⟩
  split at h
  · rename_i hq
    split at h
    · rename_i hg
      simp only [Prod.mk.injEq, and_true] at h; obtain ⟨rfl, rfl, rfl⟩ := h
      have hv3 : ∀ x, goodB x = true → vright 3 0 x = true := fun x hx => by simp [vright, hx]
      have hv := hv3 _ hg
      refine ⟨hv, ?_⟩
      rw [prV_ok hv, if_neg (by decide), if_pos rfl, mkS_toList]
      exact text_of hq.1 hq.2.1 hq.2.2
    · simp at h
  split at h
  · rename_i hf
    split at h
    · rename_i hg
      simp only [Prod.mk.injEq, and_true] at h; obtain ⟨rfl, rfl, rfl⟩ := h
      obtain ⟨e, h0, h1⟩ := rVnum_true (l := l.dropLast) (n := (rVnum l.dropLast).1) (by rw [← hg])
      have hv := vright_numof (k := 2) (.inr rfl) h0 h1
      refine ⟨hv, ?_⟩
      rw [prV_ok hv, if_neg (by decide), if_neg (by decide), if_neg (by decide), if_pos rfl, ← e]
      exact (last_of hf).symm
    · simp at h
  · split at h
    · rename_i hg
      simp only [Prod.mk.injEq, and_true] at h; obtain ⟨rfl, rfl, rfl⟩ := h
      obtain ⟨e, h0, h1⟩ := rVnum_true (l := l) (n := (rVnum l).1) (by rw [← hg])
      have hv := vright_numof (k := 1) (.inl rfl) h0 h1
      refine ⟨hv, ?_⟩
      rw [prV_ok hv, if_neg (by decide), if_neg (by decide), if_pos rfl, ← e]
    · simp at h
theorem itoa_first {n : Int} : ∃ c r, Lib.itoa n = c :: r ∧ (c.toNat = 45 ∨ 48 ≤ c.toNat ∧ c.toNat ≤ 57) := itoa_cons n
theorem rPV_num_pre {l : List UInt8} {c : UInt8} {r : List UInt8} (hl : l = c :: r) (hc : c.toNat = 45 ∨ 48 ≤ c.toNat ∧ c.toNat ≤ 57) :
    rPV l = if l.getLast? = some 102 then (if (rVnum l.dropLast).2 = true then ((2, (rVnum l.dropLast).1, ⟨#[]⟩), true) else ((0, 0, ⟨#[]⟩), false))
      else (if (rVnum l).2 = true then ((1, (rVnum l).1, ⟨#[]⟩), true) else ((0, 0, ⟨#[]⟩), false)) := by
  have hh : ∀ (d : UInt8) (q : List UInt8), (58 ≤ d.toNat ∨ d.toNat = 34) → l ≠ d :: q := by
    intro d q hd e
    rw [hl] at e
    injection e with e1 _
    subst e1
    omega
  unfold rPV
  rw [if_neg (hh _ _ (by decide)), if_neg (hh _ _ (by decide)), if_neg (hh _ _ (by decide)), if_neg]
  rintro ⟨_, h2, _⟩
  rw [hl] at h2
  have : c = 34 := by simpa using h2
  subst this
  simp at hc
theorem rPV_back {k n : Int} {t : ByteArray} (h : vright k n t = true) : rPV (prV k n t) = ((k, n, t), true) := by
  rw [prV_ok h]
  rcases vright_cases h with ⟨rfl, rfl, rfl⟩ | ⟨hk, hn, rfl⟩ | ⟨rfl, rfl, hg⟩ | ⟨rfl, hn, rfl⟩
  · rw [if_pos rfl]; exact if_pos rfl
  · obtain ⟨c, r, e, hc⟩ := itoa_first (n := n)
    have hv := rVnum_itoa hn.1 hn.2
    rcases hk with rfl | rfl
    · rw [if_neg (by decide), if_neg (by decide), if_pos rfl, rPV_num_pre e hc, if_neg, if_pos (by rw [hv]), hv]
      intro hl
      have := List.mem_of_getLast? hl
      exact itoa_ne102 this rfl
    · rw [if_neg (by decide), if_neg (by decide), if_neg (by decide), if_pos rfl, rPV_num_pre (c := c) (r := r ++ [102]) (by rw [e]; rfl) hc, if_pos (by simp), List.dropLast_concat, if_pos (by rw [hv]), hv]
  · rw [if_neg (by decide), if_pos rfl]
    have hl : (34 :: (t.data.toList ++ [34])).length = t.data.toList.length + 2 := by simp
    unfold rPV
    have hne : ∀ (d : UInt8) (q : List UInt8), d ≠ 34 → 34 :: (t.data.toList ++ [34]) ≠ d :: q := fun d q hd e => hd (by injection e with e1 _; exact e1.symm)
    rw [if_neg (hne _ _ (by decide)), if_neg (hne _ _ (by decide)), if_neg (hne _ _ (by decide)), if_pos ⟨by rw [hl]; omega, rfl, by rw [show 34 :: (t.data.toList ++ [34]) = (34 :: t.data.toList) ++ [34] from rfl, List.getLast?_concat]⟩]
    have e : (((34 :: (t.data.toList ++ [34])).drop 1).take ((34 :: (t.data.toList ++ [34])).length - 2)) = t.data.toList := by
      rw [hl, List.drop_succ_cons, List.drop_zero, Nat.add_sub_cancel, List.take_left' rfl]
    rw [e, mkS_data, if_pos hg]
  · rw [if_neg (by decide), if_neg (by decide), if_neg (by decide), if_neg (by decide)]
    rcases hn with rfl | rfl
    · rw [if_neg (by decide)]
      unfold rPV
      rw [if_neg (by decide), if_neg (by decide), if_pos rfl]
    · rw [if_pos rfl]
      unfold rPV
      rw [if_neg (by decide), if_pos rfl]
/-- Both parse alike. -/
theorem rPV_eq (l : List UInt8) : rPV l = pParse l := by
  rcases hr : rPV l with ⟨⟨k, n, t⟩, _ | _⟩
  · have h1 := rPV_false (l := l) (by rw [hr])
    rw [← hr, h1]
    rcases hp : pParse l with ⟨⟨k', n', t'⟩, _ | _⟩
    · unfold pParse at hp
      split at hp
      · exact hp.symm ▸ rfl
      · simp at hp
    · obtain ⟨a, b⟩ := pParse_true hp
      have := rPV_back a
      rw [b, h1] at this
      simp at this
  · obtain ⟨a, b⟩ := rPV_true hr
    have := pParse_back a
    rw [toList_eq, mkS_toList, b] at this
    exact this.symm
end Go.Proofs.YtdbghnfmhgjkaaaDoor
/- VfD: The document's digits, number, Print of a value; Right8. -/
namespace Go.Proofs.YtdbghnfmhgjkaaaDoor
open Go.RowKit Go.Dio
set_option linter.unusedVariables false
set_option linter.unusedSimpArgs false

set_option maxRecDepth 100000 in
set_option maxHeartbeats 1000000 in
theorem rVdigits_any (n : Int) (w : World) (hn : I64 n) :
    Calls Tryd.prog 104 #[.int .i64 n] w fun e w' => e = .returned (.string (mkS (Lib.itoa n))) ∧ Below w.heap.size w w' := by
  have hsz : (mkS (prS n 0)).size = (Lib.itoa n).length + 2 := by rw [mkS_size, prS, itoa_zero]; simp
  have hcut : (mkS (prS n 0)).extract 0 (Lib.itoa n).length = mkS (Lib.itoa n) := by rw [extract_mk, mkS_toList, prS, List.drop_zero, Nat.sub_zero, List.take_left' rfl]
  have hil := itoa_len n hn.1 hn.2
  have HP := hid (fun w => rPrint2_any n 0 w hn (by constructor <;> omega))
  have HC := hid hcut
  have hL : ((mkS (prS n 0)).size : Int) - 2 = ((Lib.itoa n).length : Int) := by omega
  clear hcut
  generalize mkS (prS n 0) = s at *
  generalize (Lib.itoa n).length = L at *
  go_enter Tryd.func104, Tryd.ntmps104
  go_wp2_with fail
  refine (HP.out _).mono ?_
  rintro e w1 ⟨rfl, hb⟩
  go_wp2_with fail
  go_ret
  exact ⟨by rw [HC.out]; rfl, hb⟩

set_option maxRecDepth 100000 in
set_option maxHeartbeats 2000000 in
theorem rVPrint_any (k n : Int) (s : ByteArray) (w : World) (hs : s.size ≤ 9223372036854775807) :
    Calls Tryd.prog 64 #[vv k n s] w fun e w' => e = .returned (.string (mkS (prV k n s))) ∧ Below w.heap.size w w' := by
  have V0 := hid (VAt.new w k n s _ rfl)
  rcases hr : vright k n s with _ | _
  · have HP := hid (show prV k n s = [] by rw [prV, if_neg (by simp [hr])])
    have HR := hid hr
    clear hr
    go_enter Tryd.func64, Tryd.ntmps64
    go_wp2_with fail
    refine (rVRight_any k n s _ hs).mono ?_
    rw [HR.out]
    rintro e w1 ⟨rfl, hb1⟩
    have H1 := hid (below_then (below_alloc1 _ _) hb1)
    clear hb1
    go_wp2_with fail
    go_ret
    exact ⟨by rw [HP.out]; rfl, H1.out⟩
  · have HP := hid (show prV k n s = _ by rw [prV, if_pos hr])
    have HC := hid (vright_cases hr)
    have HR := hid hr
    clear hr
    go_enter Tryd.func64, Tryd.ntmps64
    go_wp2_with fail
    refine (rVRight_any k n s _ hs).mono ?_
    rw [HR.out]
    rintro e w1 ⟨rfl, hb1⟩
    have H1 := hid (below_then (below_alloc1 _ _) hb1)
    have V1 := hid (V0.out.below hb1)
    clear hb1
    have a0 := V1.out.c0; have a1 := V1.out.c1; have a2 := V1.out.c2
    rcases HC.out with ⟨rfl, rfl, rfl⟩ | ⟨hk, hn, rfl⟩ | ⟨rfl, rfl, hg⟩ | ⟨rfl, hn, rfl⟩
    · go_wp2_with fail
      go_ret
      exact ⟨by rw [HP.out]; rfl, H1.out⟩
    · have hin : I64 n := by constructor <;> omega
      have hil := itoa_len n hin.1 hin.2
      rcases hk with rfl | rfl
      · go_wp2_with fail
        refine (rVdigits_any n _ hin).mono ?_
        rintro e w2 ⟨rfl, hb⟩
        have H2 := hid (below_then H1.out hb)
        clear hb
        go_wp2_with fail
        go_ret
        exact ⟨by rw [HP.out]; rfl, H2.out⟩
      · go_wp2_with fail
        refine (rVdigits_any n _ hin).mono ?_
        rintro e w2 ⟨rfl, hb⟩
        have H2 := hid (below_then H1.out hb)
        have hsz : (mkS (Lib.itoa n)).size + 1 ≤ 9223372036854775807 := by rw [mkS_size]; omega
        clear hb
        go_wp2_with fail
        go_ret
        exact ⟨by rw [HP.out]; rfl, H2.out⟩
    · have hg64 := goodB_len hg
      clear hg
      go_wp2_with fail
      go_ret
      refine ⟨?_, H1.out⟩
      have e : ((⟨#[34]⟩ : ByteArray) ++ s ++ ⟨#[34]⟩) = mkS (34 :: (s.data.toList ++ [34])) := by
        have e1 : (⟨#[34]⟩ : ByteArray) = mkS [34] := rfl
        conv => lhs; rw [← mkS_data s, e1]
        rw [mkS_app, mkS_app, List.append_assoc]
        rfl
      rw [HP.out, if_neg (by decide), if_pos trivial, ← e]
      rfl
    · rcases hn with rfl | rfl
      · go_wp2_with fail
        go_ret
        exact ⟨by rw [HP.out]; rfl, H1.out⟩
      · go_wp2_with fail
        go_ret
        exact ⟨by rw [HP.out]; rfl, H1.out⟩

theorem rSP_bd (l : List UInt8) : 0 ≤ (rSP l).1.1 ∧ (rSP l).1.1 ≤ 1099511627776 := by
  rcases hr : rSP l with ⟨⟨x, y⟩, _ | _⟩
  · have := rSP_false (l := l) (by rw [hr])
    rw [hr] at this
    simp only [Prod.mk.injEq, and_true] at this
    dsimp only
    omega
  · have := sright_bd (rSP_true hr).1
    exact ⟨this.1, this.2.1⟩
theorem head45 (s : ByteArray) (h : 0 < s.size) : (s.data.toList.head? = some 45) ↔ s[0].toNat = 45 := by
  have hl : 0 < s.data.toList.length := by rw [Array.length_toList]; exact h
  rw [List.head?_eq_getElem?, List.getElem?_eq_getElem hl, Option.some.injEq, get_data s 0 h]
  constructor
  · intro e; rw [e]; rfl
  · intro e; exact UInt8.toNat_inj.1 (by rw [e]; rfl)
theorem app_toList (a b : ByteArray) : (a ++ b).data.toList = a.data.toList ++ b.data.toList := by simp [ByteArray.data_append]

set_option maxRecDepth 100000 in
set_option maxHeartbeats 2000000 in
theorem rVnumber_any (s : ByteArray) (w : World) (hs : s.size ≤ 9223372036854775000) :
    Calls Tryd.prog 95 #[.string s] w fun e w' => e = .returned (.tuple #[.int .i64 (rVnum s.data.toList).1, .bool (rVnum s.data.toList).2]) ∧ Below w.heap.size w w' := by
  have e2 : (⟨#[64, 48]⟩ : ByteArray).size = 2 := rfl
  by_cases hm : s.data.toList.head? = some 45
  · have hpos : 0 < s.size := by
      rcases hx : s.data.toList with _ | ⟨a, l⟩
      · rw [hx] at hm; simp at hm
      · have : s.data.toList.length = s.size := by rw [Array.length_toList]; rfl
        rw [hx] at this; simp at this; omega
    have h45 := (head45 s hpos).1 hm
    have hb : ((s[0].toNat : Int) == 45) = true := by rw [h45]; rfl
    have F := hid (show rVnum s.data.toList = _ from if_pos hm)
    have e1 : (s.extract 1 s.size ++ ⟨#[64, 48]⟩).data.toList = s.data.toList.drop 1 ++ [64, 48] := by
      rw [app_toList, extract_mk, mkS_toList, List.take_of_length_le (by rw [List.length_drop, Array.length_toList]; exact Nat.le_refl _)]
    have hsz : (s.extract 1 s.size).size + 2 ≤ 9223372036854775806 := by simp [ByteArray.size_extract]; omega
    have hsz2 : (s.extract 1 s.size ++ ⟨#[64, 48]⟩).size ≤ 9223372036854775806 := by rw [ByteArray.size_append, e2]; exact hsz
    have hp := fun w => rParse2_any (s.extract 1 s.size ++ ⟨#[64, 48]⟩) w hsz2
    rw [e1] at hp
    have hbd := rSP_bd (s.data.toList.drop 1 ++ [64, 48])
    have HP := hid hp
    clear hp e1 hm h45 hsz2
    rcases hr : rSP (s.data.toList.drop 1 ++ [64, 48]) with ⟨⟨x, y⟩, ok⟩
    rw [hr] at F HP hbd
    clear hr
    dsimp only at F HP hbd
    generalize hv : s.extract 1 s.size = v at *
    go_enter Tryd.func95, Tryd.ntmps95
    go_wp2_with fail
    try rw [hv]
    refine (HP.out _).mono ?_
    rintro e w1 ⟨rfl, hb1⟩
    have H1 := hid (below_new hb1 (so x y)).drew
    have S1 := hid (SAt.new w1 x y _ rfl)
    have c0 := S1.out.c0
    clear hb1
    go_wp2_with fail
    refine wp_region_held_drew (S := fun w' => w'.cell? ⟨w1.heap.size, 0, none⟩ = some (.int .i64 x)) (by kernel_rfl) (by exact c0) (fun hHeld => ?_)
    rcases ok with _ | _
    · skip
      refine takeL 0 (v := ?_) rfl (by kernel_rfl) (by kernel_rfl) (by kernel_rfl) (fun _ _ _ h => h) (by rfl) ?_ (by assumption) ?_
      case' refine_2 => (intro w hSw; (try dsimp only at hSw); go_simp; try with_reducible rfl)
      try simp only [Act.put, List.setIfInBounds_toArray, List.set_cons_zero, List.set_cons_succ]
      refine takeL 1 (v := ?_) rfl (by kernel_rfl) (by kernel_rfl) (by kernel_rfl) (fun _ _ _ h => h) (by rfl) ?_ (by assumption) ?_
      case' refine_2 => (intro w hSw; (try dsimp only at hSw); go_simp; try with_reducible rfl)
      try simp only [Act.put, List.setIfInBounds_toArray, List.set_cons_zero, List.set_cons_succ]
      refine takeL 2 (v := ?_) rfl (by kernel_rfl) (by kernel_rfl) (by kernel_rfl) (fun _ _ _ h => h) (by rfl) ?_ (by assumption) ?_
      case' refine_2 => (intro w hSw; (try dsimp only at hSw); go_simp; try with_reducible rfl)
      try simp only [Act.put, List.setIfInBounds_toArray, List.set_cons_zero, List.set_cons_succ]
      refine takeL 3 (v := ?_) rfl (by kernel_rfl) (by kernel_rfl) (by kernel_rfl) (fun _ _ _ h => h) (by rfl) ?_ (by assumption) ?_
      case' refine_2 => (intro w hSw; (try dsimp only at hSw); go_simp; try with_reducible rfl)
      try simp only [Act.put, List.setIfInBounds_toArray, List.set_cons_zero, List.set_cons_succ]
      refine takeL 4 (v := ?_) rfl (by kernel_rfl) (by kernel_rfl) (by kernel_rfl) (fun _ _ _ h => h) (by rfl) ?_ (by assumption) ?_
      case' refine_2 => (intro w hSw; (try dsimp only at hSw); go_simp; try with_reducible rfl)
      try simp only [Act.put, List.setIfInBounds_toArray, List.set_cons_zero, List.set_cons_succ]
      refine skipL 5 rfl (by kernel_rfl) (by kernel_rfl) (by kernel_rfl) (fun _ _ _ h => h) (by rfl) (by assumption) ?_
      try simp only [Act.put, List.setIfInBounds_toArray, List.set_cons_zero, List.set_cons_succ]
      refine skipL 6 rfl (by kernel_rfl) (by kernel_rfl) (by kernel_rfl) (fun _ _ _ h => h) (by rfl) (by assumption) ?_
      try simp only [Act.put, List.setIfInBounds_toArray, List.set_cons_zero, List.set_cons_succ]
      refine skipL 7 rfl (by kernel_rfl) (by kernel_rfl) (by kernel_rfl) (fun _ _ _ h => h) (by rfl) (by assumption) ?_
      try simp only [Act.put, List.setIfInBounds_toArray, List.set_cons_zero, List.set_cons_succ]
      refine takeL 8 (v := ?_) rfl (by kernel_rfl) (by kernel_rfl) (by kernel_rfl) (fun _ _ _ h => h) (by rfl) ?_ (by assumption) ?_
      case' refine_2 => (intro w hSw; (try dsimp only at hSw); go_simp; try with_reducible rfl)
      try simp only [Act.put, List.setIfInBounds_toArray, List.set_cons_zero, List.set_cons_succ]
      refine takeL 9 (v := ?_) rfl (by kernel_rfl) (by kernel_rfl) (by kernel_rfl) (fun _ _ _ h => h) (by rfl) ?_ (by assumption) ?_
      case' refine_2 => (intro w hSw; (try dsimp only at hSw); go_simp; try with_reducible rfl)
      try simp only [Act.put, List.setIfInBounds_toArray, List.set_cons_zero, List.set_cons_succ]
      refine takeL 10 (v := ?_) rfl (by kernel_rfl) (by kernel_rfl) (by kernel_rfl) (fun _ _ _ h => h) (by rfl) ?_ (by assumption) ?_
      case' refine_2 => (intro w hSw; (try dsimp only at hSw); go_simp; try with_reducible rfl)
      try simp only [Act.put, List.setIfInBounds_toArray, List.set_cons_zero, List.set_cons_succ]
      refine wpAnyH_done (by kernel_rfl) ?_ _
      go_wp2_with fail
      go_ret2
      rw [F.out]
      exact ⟨by simp; try (simp only [IntKind.wrap_i64]; omega), H1.out⟩
    · skip
      refine takeL 0 (v := ?_) rfl (by kernel_rfl) (by kernel_rfl) (by kernel_rfl) (fun _ _ _ h => h) (by rfl) ?_ (by assumption) ?_
      case' refine_2 => (intro w hSw; (try dsimp only at hSw); go_simp; try with_reducible rfl)
      try simp only [Act.put, List.setIfInBounds_toArray, List.set_cons_zero, List.set_cons_succ]
      refine takeL 1 (v := ?_) rfl (by kernel_rfl) (by kernel_rfl) (by kernel_rfl) (fun _ _ _ h => h) (by rfl) ?_ (by assumption) ?_
      case' refine_2 => (intro w hSw; (try dsimp only at hSw); go_simp; try with_reducible rfl)
      try simp only [Act.put, List.setIfInBounds_toArray, List.set_cons_zero, List.set_cons_succ]
      refine takeL 2 (v := ?_) rfl (by kernel_rfl) (by kernel_rfl) (by kernel_rfl) (fun _ _ _ h => h) (by rfl) ?_ (by assumption) ?_
      case' refine_2 => (intro w hSw; (try dsimp only at hSw); go_simp; try with_reducible rfl)
      try simp only [Act.put, List.setIfInBounds_toArray, List.set_cons_zero, List.set_cons_succ]
      refine takeL 3 (v := ?_) rfl (by kernel_rfl) (by kernel_rfl) (by kernel_rfl) (fun _ _ _ h => h) (by rfl) ?_ (by assumption) ?_
      case' refine_2 => (intro w hSw; (try dsimp only at hSw); go_simp; try with_reducible rfl)
      try simp only [Act.put, List.setIfInBounds_toArray, List.set_cons_zero, List.set_cons_succ]
      refine takeL 4 (v := ?_) rfl (by kernel_rfl) (by kernel_rfl) (by kernel_rfl) (fun _ _ _ h => h) (by rfl) ?_ (by assumption) ?_
      case' refine_2 => (intro w hSw; (try dsimp only at hSw); go_simp; try with_reducible rfl)
      try simp only [Act.put, List.setIfInBounds_toArray, List.set_cons_zero, List.set_cons_succ]
      refine takeL 5 (v := ?_) rfl (by kernel_rfl) (by kernel_rfl) (by kernel_rfl) (fun _ _ _ h => h) (by rfl) ?_ (by assumption) ?_
      case' refine_2 => (intro w hSw; (try dsimp only at hSw); go_simp; try with_reducible rfl)
      try simp only [Act.put, List.setIfInBounds_toArray, List.set_cons_zero, List.set_cons_succ]
      refine takeL 6 (v := ?_) rfl (by kernel_rfl) (by kernel_rfl) (by kernel_rfl) (fun _ _ _ h => h) (by rfl) ?_ (by assumption) ?_
      case' refine_2 => (intro w hSw; (try dsimp only at hSw); go_simp; try with_reducible rfl)
      try simp only [Act.put, List.setIfInBounds_toArray, List.set_cons_zero, List.set_cons_succ]
      refine takeL 7 (v := ?_) rfl (by kernel_rfl) (by kernel_rfl) (by kernel_rfl) (fun _ _ _ h => h) (by rfl) ?_ (by assumption) ?_
      case' refine_2 => (intro w hSw; (try dsimp only at hSw); go_simp; try with_reducible rfl)
      try simp only [Act.put, List.setIfInBounds_toArray, List.set_cons_zero, List.set_cons_succ]
      refine takeL 8 (v := ?_) rfl (by kernel_rfl) (by kernel_rfl) (by kernel_rfl) (fun _ _ _ h => h) (by rfl) ?_ (by assumption) ?_
      case' refine_2 => (intro w hSw; (try dsimp only at hSw); go_simp; try with_reducible rfl)
      try simp only [Act.put, List.setIfInBounds_toArray, List.set_cons_zero, List.set_cons_succ]
      refine takeL 9 (v := ?_) rfl (by kernel_rfl) (by kernel_rfl) (by kernel_rfl) (fun _ _ _ h => h) (by rfl) ?_ (by assumption) ?_
      case' refine_2 => (intro w hSw; (try dsimp only at hSw); go_simp; try with_reducible rfl)
      try simp only [Act.put, List.setIfInBounds_toArray, List.set_cons_zero, List.set_cons_succ]
      refine takeL 10 (v := ?_) rfl (by kernel_rfl) (by kernel_rfl) (by kernel_rfl) (fun _ _ _ h => h) (by rfl) ?_ (by assumption) ?_
      case' refine_2 => (intro w hSw; (try dsimp only at hSw); go_simp; try with_reducible rfl)
      try simp only [Act.put, List.setIfInBounds_toArray, List.set_cons_zero, List.set_cons_succ]
      refine wpAnyH_done (by kernel_rfl) ?_ _
      go_wp2_with fail
      go_ret2
      rw [F.out]
      exact ⟨by simp; try (simp only [IntKind.wrap_i64]; omega), H1.out⟩
  · have F := hid (show rVnum s.data.toList = _ from if_neg hm)
    have e1 : (s ++ ⟨#[64, 48]⟩).data.toList = s.data.toList ++ [64, 48] := by rw [app_toList]
    have hsz2 : (s ++ ⟨#[64, 48]⟩).size ≤ 9223372036854775806 := by rw [ByteArray.size_append, e2]; omega
    have hp := fun w => rParse2_any (s ++ ⟨#[64, 48]⟩) w hsz2
    rw [e1] at hp
    have HP := hid hp
    have h45 : s.size = 0 ∨ ∃ h : 0 < s.size, ((s[0].toNat : Int) == 45) = false := by
      by_cases h0 : 0 < s.size
      · refine .inr ⟨h0, ?_⟩
        have := (head45 s h0)
        simp only [beq_eq_false_iff_ne]
        intro e
        exact hm (this.2 (by omega))
      · exact .inl (by omega)
    clear hp e1 hm hsz2
    rcases hr : rSP (s.data.toList ++ [64, 48]) with ⟨⟨x, y⟩, ok⟩
    rw [hr] at F HP
    clear hr
    dsimp only at F HP
    rcases h45 with h0 | ⟨h0, hb⟩
    all_goals
      go_enter Tryd.func95, Tryd.ntmps95
      go_wp2_with fail
      refine (HP.out _).mono ?_
      rintro e w1 ⟨rfl, hb1⟩
      have H1 := hid (below_new hb1 (so x y))
      clear hb1
      go_wp2_with fail
      go_ret2
      rw [F.out]
      exact ⟨rfl, H1.out⟩
end Go.Proofs.YtdbghnfmhgjkaaaDoor
/- VfG: The document's Parse of a value. -/
namespace Go.Proofs.YtdbghnfmhgjkaaaDoor
open Go.RowKit Go.Dio
set_option linter.unusedVariables false
set_option linter.unusedSimpArgs false

def RPOut (s : ByteArray) (w : World) (e : Ending) (w' : World) : Prop := e = .returned (.tuple #[vv (rPV s.data.toList).1.1 (rPV s.data.toList).1.2.1 (rPV s.data.toList).1.2.2, .bool (rPV s.data.toList).2]) ∧ Below w.heap.size w w'
theorem lastB (s : ByteArray) (h : 0 < s.size) (c : UInt8) : s.data.toList.getLast? = some c ↔ s[s.size - 1].toNat = c.toNat := by
  have hlen : s.data.toList.length = s.size := by rw [Array.length_toList]; rfl
  rw [List.getLast?_eq_getElem?, hlen, List.getElem?_eq_getElem (by omega), Option.some.injEq, get_data s (s.size - 1) (by omega)]
  exact ⟨fun e => by rw [e], fun e => UInt8.toNat_inj.1 e⟩
theorem rPV_text {l : List UInt8} (h1 : (l == [110, 111, 110, 101]) = false) (h2 : (l == [121, 101, 115]) = false) (h3 : (l == [110, 111]) = false) (h : 2 ≤ l.length ∧ l.head? = some 34 ∧ l.getLast? = some 34) :
    rPV l = if goodB (mkS ((l.drop 1).take (l.length - 2))) = true then ((3, 0, mkS ((l.drop 1).take (l.length - 2))), true) else ((0, 0, ⟨#[]⟩), false) := by
  unfold rPV
  rw [if_neg (by simpa using h1), if_neg (by simpa using h2), if_neg (by simpa using h3), if_pos h]
theorem rPV_f {l : List UInt8} (h1 : (l == [110, 111, 110, 101]) = false) (h2 : (l == [121, 101, 115]) = false) (h3 : (l == [110, 111]) = false) (h : ¬ (2 ≤ l.length ∧ l.head? = some 34 ∧ l.getLast? = some 34)) (hf : l.getLast? = some 102) :
    rPV l = if (rVnum l.dropLast).2 = true then ((2, (rVnum l.dropLast).1, ⟨#[]⟩), true) else ((0, 0, ⟨#[]⟩), false) := by
  unfold rPV
  rw [if_neg (by simpa using h1), if_neg (by simpa using h2), if_neg (by simpa using h3), if_neg h, if_pos hf]
theorem rPV_1 {l : List UInt8} (h1 : (l == [110, 111, 110, 101]) = false) (h2 : (l == [121, 101, 115]) = false) (h3 : (l == [110, 111]) = false) (h : ¬ (2 ≤ l.length ∧ l.head? = some 34 ∧ l.getLast? = some 34)) (hf : ¬ l.getLast? = some 102) :
    rPV l = if (rVnum l).2 = true then ((1, (rVnum l).1, ⟨#[]⟩), true) else ((0, 0, ⟨#[]⟩), false) := by
  unfold rPV
  rw [if_neg (by simpa using h1), if_neg (by simpa using h2), if_neg (by simpa using h3), if_neg h, if_neg hf]
theorem rPV_w1 : rPV [110, 111, 110, 101] = ((0, 0, ⟨#[]⟩), true) := if_pos rfl
theorem rPV_w2 : rPV [121, 101, 115] = ((4, 1, ⟨#[]⟩), true) := by unfold rPV; rw [if_neg (by decide), if_pos rfl]
theorem rPV_w3 : rPV [110, 111] = ((4, 0, ⟨#[]⟩), true) := by unfold rPV; rw [if_neg (by decide), if_neg (by decide), if_pos rfl]

set_option maxRecDepth 100000 in
set_option maxHeartbeats 4000000 in
theorem rVParse_w1 (s : ByteArray) (w : World) (hA : s.data.toList = [110, 111, 110, 101]) :
    Calls Tryd.prog 55 #[.string s] w (RPOut s w) := by
  have Z0 := hid (VAt.new w 0 0 ⟨#[]⟩ _ rfl)
  have H0 := hid (below_alloc1 w (vo 0 0 ⟨#[]⟩))
  have b0 : (s.toList == [110, 111, 110, 101]) = true := by rw [toList_eq, hA]; rfl
  have f0 := Z0.out.fz 0; have f1 := Z0.out.fz 1; have f2 := Z0.out.fz 2
  have z0 := Z0.out.c0; have z1 := Z0.out.c1; have z2 := Z0.out.c2
  have hlz := Z0.out.lt
  unfold RPOut
  rw [hA, rPV_w1]
  clear hA
  go_enter Tryd.func55, Tryd.ntmps55
  go_wp2_with fail
  (try simp only [Exit.inBlock, Exit.then]); refine bodyPost_ret (v := .tuple #[vv 0 0 ⟨#[]⟩, .bool true]) (by simp [results, show Tryd.f55.results = #[.cell 2 49, .tmp 3] from rfl, go_sem, *]) rfl ?_
  refine ⟨rfl, ?_⟩
  repeat' first | exact H0.out | exact below_alloc1 _ _ | refine below_put ?_ _ _ _ (by omega)
set_option maxRecDepth 100000 in
set_option maxHeartbeats 4000000 in
theorem rVParse_w2 (s : ByteArray) (w : World) (hA : s.data.toList = [121, 101, 115]) :
    Calls Tryd.prog 55 #[.string s] w (RPOut s w) := by
  have Z0 := hid (VAt.new w 0 0 ⟨#[]⟩ _ rfl)
  have H0 := hid (below_alloc1 w (vo 0 0 ⟨#[]⟩))
  have b0 : (s.toList == [110, 111, 110, 101]) = false := by rw [toList_eq, hA]; rfl
  have b1 : (s.toList == [121, 101, 115]) = true := by rw [toList_eq, hA]; rfl
  have f0 := Z0.out.fz 0; have f1 := Z0.out.fz 1; have f2 := Z0.out.fz 2
  have z0 := Z0.out.c0; have z1 := Z0.out.c1; have z2 := Z0.out.c2
  have hlz := Z0.out.lt
  unfold RPOut
  rw [hA, rPV_w2]
  clear hA
  go_enter Tryd.func55, Tryd.ntmps55
  go_wp2_with fail
  (try simp only [Exit.inBlock, Exit.then]); refine bodyPost_ret (v := .tuple #[vv 4 1 ⟨#[]⟩, .bool true]) (by simp [results, show Tryd.f55.results = #[.cell 2 49, .tmp 3] from rfl, go_sem, *]) rfl ?_
  refine ⟨rfl, ?_⟩
  repeat' first | exact H0.out | exact below_alloc1 _ _ | refine below_put ?_ _ _ _ (by omega)
set_option maxRecDepth 100000 in
set_option maxHeartbeats 4000000 in
theorem rVParse_w3 (s : ByteArray) (w : World) (hA : s.data.toList = [110, 111]) :
    Calls Tryd.prog 55 #[.string s] w (RPOut s w) := by
  have Z0 := hid (VAt.new w 0 0 ⟨#[]⟩ _ rfl)
  have H0 := hid (below_alloc1 w (vo 0 0 ⟨#[]⟩))
  have b0 : (s.toList == [110, 111, 110, 101]) = false := by rw [toList_eq, hA]; rfl
  have b1 : (s.toList == [121, 101, 115]) = false := by rw [toList_eq, hA]; rfl
  have b2 : (s.toList == [110, 111]) = true := by rw [toList_eq, hA]; rfl
  have f0 := Z0.out.fz 0; have f1 := Z0.out.fz 1; have f2 := Z0.out.fz 2
  have z0 := Z0.out.c0; have z1 := Z0.out.c1; have z2 := Z0.out.c2
  have hlz := Z0.out.lt
  unfold RPOut
  rw [hA, rPV_w3]
  clear hA
  go_enter Tryd.func55, Tryd.ntmps55
  go_wp2_with fail
  (try simp only [Exit.inBlock, Exit.then]); refine bodyPost_ret (v := .tuple #[vv 4 0 ⟨#[]⟩, .bool true]) (by simp [results, show Tryd.f55.results = #[.cell 2 49, .tmp 3] from rfl, go_sem, *]) rfl ?_
  refine ⟨rfl, ?_⟩
  repeat' first | exact H0.out | exact below_alloc1 _ _ | refine below_put ?_ _ _ _ (by omega)
set_option maxRecDepth 100000 in
set_option maxHeartbeats 4000000 in
theorem rVParse_text (s : ByteArray) (w : World) (hs : s.size ≤ 140737488355328) (b1 : (s.toList == [110, 111, 110, 101]) = false) (b2 : (s.toList == [121, 101, 115]) = false) (b3 : (s.toList == [110, 111]) = false) (h2 : 2 ≤ s.size) (h3 : s[0].toNat = 34) (h4 : s[s.size - 1].toNat = 34) :
    Calls Tryd.prog 55 #[.string s] w (RPOut s w) := by
  have Z0 := hid (VAt.new w 0 0 ⟨#[]⟩ _ rfl)
  have H0 := hid (below_alloc1 w (vo 0 0 ⟨#[]⟩))
  have hlen : s.data.toList.length = s.size := by rw [Array.length_toList]; rfl
  have hb0 : ((s[0].toNat : Int) == 34) = true := by rw [h3]; rfl
  have hb4 : ((s[s.size - 1].toNat : Int) == 34) = true := by rw [h4]; rfl
  have hh := (head34 s (by omega)).2 h3
  rw [toList_eq] at hh
  have hl := (lastB s (by omega) 34).2 h4
  have F := rPV_text (l := s.data.toList) (by rw [← toList_eq]; exact b1) (by rw [← toList_eq]; exact b2) (by rw [← toList_eq]; exact b3) ⟨by omega, hh, hl⟩
  have hx : mkS ((s.data.toList.drop 1).take (s.data.toList.length - 2)) = s.extract 1 (s.size - 1) := by
    rw [extract_mk, hlen]; congr 2
  rw [hx] at F
  have hsz : (s.extract 1 (s.size - 1)).size ≤ 9223372036854775807 := by simp [ByteArray.size_extract]; omega
  have HF := hid F
  clear F hh hl hx h3 h4
  have f0 := Z0.out.fz 0; have f1 := Z0.out.fz 1; have f2 := Z0.out.fz 2
  have z0 := Z0.out.c0; have z1 := Z0.out.c1; have z2 := Z0.out.c2
  have hlz := Z0.out.lt
  rcases hg : goodB (s.extract 1 (s.size - 1)) with _ | _
  · have HG := hid hg
    have HF2 := hid (HF.out.trans (if_neg (by rw [hg]; simp)))
    clear hg HF
    unfold RPOut
    rw [HF2.out]
    go_enter Tryd.func55, Tryd.ntmps55
    go_wp2_with fail
    refine (rgood_any _ _ hsz).mono ?_
    rw [HG.out]
    rintro e w1 ⟨rfl, rfl⟩
    go_wp2_with fail
    (try simp only [Exit.inBlock, Exit.then]); refine bodyPost_ret (v := .tuple #[vv 0 0 ⟨#[]⟩, .bool false]) (by simp [results, show Tryd.f55.results = #[.cell 2 49, .tmp 3] from rfl, go_sem, *]) rfl ?_
    refine ⟨rfl, ?_⟩
    repeat' first | exact H0.out | exact below_alloc1 _ _ | refine below_put ?_ _ _ _ (by omega)
  · have HG := hid hg
    have HF2 := hid (HF.out.trans (if_pos hg))
    clear hg HF
    unfold RPOut
    rw [HF2.out]
    go_enter Tryd.func55, Tryd.ntmps55
    go_wp2_with fail
    refine (rgood_any _ _ hsz).mono ?_
    rw [HG.out]
    rintro e w1 ⟨rfl, rfl⟩
    go_wp2_with fail
    (try simp only [Exit.inBlock, Exit.then]); refine bodyPost_ret (v := .tuple #[vv 3 0 (s.extract 1 (s.size - 1)), .bool true]) (by simp [results, show Tryd.f55.results = #[.cell 2 49, .tmp 3] from rfl, go_sem, *]) rfl ?_
    refine ⟨rfl, ?_⟩
    repeat' first | exact H0.out | exact below_alloc1 _ _ | refine below_put ?_ _ _ _ (by omega)
set_option maxRecDepth 100000 in
set_option maxHeartbeats 4000000 in
theorem rVParse_f (s : ByteArray) (w : World) (hs : s.size ≤ 140737488355328) (b1 : (s.toList == [110, 111, 110, 101]) = false) (b2 : (s.toList == [121, 101, 115]) = false) (b3 : (s.toList == [110, 111]) = false) (hpos : 0 < s.size)
    (hn : ¬ (2 ≤ s.data.toList.length ∧ s.data.toList.head? = some 34 ∧ s.data.toList.getLast? = some 34)) (hf : s.data.toList.getLast? = some 102) :
    Calls Tryd.prog 55 #[.string s] w (RPOut s w) := by
  have Z0 := hid (VAt.new w 0 0 ⟨#[]⟩ _ rfl)
  have H0 := hid (below_alloc1 w (vo 0 0 ⟨#[]⟩))
  have hlen : s.data.toList.length = s.size := by rw [Array.length_toList]; rfl
  have HF := hid (rPV_f (l := s.data.toList) (by rw [← toList_eq]; exact b1) (by rw [← toList_eq]; exact b2) (by rw [← toList_eq]; exact b3) hn hf)
  have hl := (lastB s hpos 102).1 hf
  have hb4 : ((s[s.size - 1].toNat : Int) == 102) = true := by rw [hl]; rfl
  clear hl
  have c5 : s.size < 2 ∨ (∃ h : 2 ≤ s.size, ((s[0].toNat : Int) == 34) = false) ∨ (∃ h : 2 ≤ s.size, ((s[0].toNat : Int) == 34) = true ∧ ((s[s.size - 1].toNat : Int) == 34) = false) := by
    by_cases h2 : 2 ≤ s.size
    · by_cases h3 : s[0].toNat = 34
      · refine .inr (.inr ⟨h2, by rw [h3]; rfl, ?_⟩)
        simp only [beq_eq_false_iff_ne]
        intro e
        have hh := (head34 s (by omega)).2 h3
        rw [toList_eq] at hh
        exact hn ⟨by omega, hh, (lastB s (by omega) 34).2 (by simp; omega)⟩
      · exact .inr (.inl ⟨h2, by simp only [beq_eq_false_iff_ne]; omega⟩)
    · exact .inl (by omega)
  have hsz : (s.extract 0 (s.size - 1)).size ≤ 9223372036854775000 := by simp [ByteArray.size_extract]; omega
  have hN := fun w => rVnumber_any (s.extract 0 (s.size - 1)) w hsz
  have hx : (s.extract 0 (s.size - 1)).data.toList = s.data.toList.dropLast := by rw [extract_mk, mkS_toList, List.drop_zero, Nat.sub_zero, List.dropLast_eq_take, hlen]
  rw [hx] at hN
  rcases hv : rVnum s.data.toList.dropLast with ⟨m, ok⟩
  rw [hv] at hN HF
  have HN := hid hN
  clear hN hv hn hf hx
  dsimp only at HN HF
  have f0 := Z0.out.fz 0; have f1 := Z0.out.fz 1; have f2 := Z0.out.fz 2
  have z0 := Z0.out.c0; have z1 := Z0.out.c1; have z2 := Z0.out.c2
  have hlz := Z0.out.lt
  unfold RPOut
  rw [HF.out]
  clear HF
  rcases c5 with c5 | ⟨c5, c6⟩ | ⟨c5, c6, c7⟩
  all_goals
    go_enter Tryd.func55, Tryd.ntmps55
    go_wp2_with fail
    refine (HN.out _).mono ?_
    rintro e w1 ⟨rfl, hb⟩
    have H1 := hid (below_then H0.out hb)
    have Z1 := hid (Z0.out.below hb)
    clear hb f0 f1 f2 z0 z1 z2 hlz
    have f0 := Z1.out.fz 0; have f1 := Z1.out.fz 1; have f2 := Z1.out.fz 2
    have z0 := Z1.out.c0; have z1 := Z1.out.c1; have z2 := Z1.out.c2
    have hlz := Z1.out.lt
    rcases ok with _ | _
    · go_wp2_with fail
      (try simp only [Exit.inBlock, Exit.then]); refine bodyPost_ret (v := .tuple #[vv 0 0 ⟨#[]⟩, .bool false]) (by simp [results, show Tryd.f55.results = #[.cell 2 49, .tmp 3] from rfl, go_sem, *]) rfl ?_
      refine ⟨rfl, ?_⟩
      repeat' first | exact H1.out | refine below_put ?_ _ _ _ (by omega)
    · go_wp2_with fail
      (try simp only [Exit.inBlock, Exit.then]); refine bodyPost_ret (v := .tuple #[vv 2 m ⟨#[]⟩, .bool true]) (by simp [results, show Tryd.f55.results = #[.cell 2 49, .tmp 3] from rfl, go_sem, *]) rfl ?_
      refine ⟨rfl, ?_⟩
      repeat' first | exact H1.out | refine below_put ?_ _ _ _ (by omega)
set_option maxRecDepth 100000 in
set_option maxHeartbeats 4000000 in
theorem rVParse_n (s : ByteArray) (w : World) (hs : s.size ≤ 140737488355328) (b1 : (s.toList == [110, 111, 110, 101]) = false) (b2 : (s.toList == [121, 101, 115]) = false) (b3 : (s.toList == [110, 111]) = false) (hpos : 0 < s.size)
    (hn : ¬ (2 ≤ s.data.toList.length ∧ s.data.toList.head? = some 34 ∧ s.data.toList.getLast? = some 34)) (hf : ¬ s.data.toList.getLast? = some 102) :
    Calls Tryd.prog 55 #[.string s] w (RPOut s w) := by
  have Z0 := hid (VAt.new w 0 0 ⟨#[]⟩ _ rfl)
  have H0 := hid (below_alloc1 w (vo 0 0 ⟨#[]⟩))
  have hlen : s.data.toList.length = s.size := by rw [Array.length_toList]; rfl
  have HF := hid (rPV_1 (l := s.data.toList) (by rw [← toList_eq]; exact b1) (by rw [← toList_eq]; exact b2) (by rw [← toList_eq]; exact b3) hn hf)
  have hb4 : ((s[s.size - 1].toNat : Int) == 102) = false := by
    simp only [beq_eq_false_iff_ne]; intro e; exact hf ((lastB s hpos 102).2 (by simp; omega))
  have c5 : s.size < 2 ∨ (∃ h : 2 ≤ s.size, ((s[0].toNat : Int) == 34) = false) ∨ (∃ h : 2 ≤ s.size, ((s[0].toNat : Int) == 34) = true ∧ ((s[s.size - 1].toNat : Int) == 34) = false) := by
    by_cases h2 : 2 ≤ s.size
    · by_cases h3 : s[0].toNat = 34
      · refine .inr (.inr ⟨h2, by rw [h3]; rfl, ?_⟩)
        simp only [beq_eq_false_iff_ne]
        intro e
        have hh := (head34 s (by omega)).2 h3
        rw [toList_eq] at hh
        exact hn ⟨by omega, hh, (lastB s (by omega) 34).2 (by simp; omega)⟩
      · exact .inr (.inl ⟨h2, by simp only [beq_eq_false_iff_ne]; omega⟩)
    · exact .inl (by omega)
  have hsz : s.size ≤ 9223372036854775000 := by omega
  have hN := fun w => rVnumber_any s w hsz
  rcases hv : rVnum s.data.toList with ⟨m, ok⟩
  rw [hv] at hN HF
  have HN := hid hN
  clear hN hv hn hf
  dsimp only at HN HF
  have f0 := Z0.out.fz 0; have f1 := Z0.out.fz 1; have f2 := Z0.out.fz 2
  have z0 := Z0.out.c0; have z1 := Z0.out.c1; have z2 := Z0.out.c2
  have hlz := Z0.out.lt
  unfold RPOut
  rw [HF.out]
  clear HF
  rcases c5 with c5 | ⟨c5, c6⟩ | ⟨c5, c6, c7⟩
  all_goals
    go_enter Tryd.func55, Tryd.ntmps55
    go_wp2_with fail
    refine (HN.out _).mono ?_
    rintro e w1 ⟨rfl, hb⟩
    have H1 := hid (below_then H0.out hb)
    have Z1 := hid (Z0.out.below hb)
    clear hb f0 f1 f2 z0 z1 z2 hlz
    have f0 := Z1.out.fz 0; have f1 := Z1.out.fz 1; have f2 := Z1.out.fz 2
    have z0 := Z1.out.c0; have z1 := Z1.out.c1; have z2 := Z1.out.c2
    have hlz := Z1.out.lt
    rcases ok with _ | _
    · go_wp2_with fail
      (try simp only [Exit.inBlock, Exit.then]); refine bodyPost_ret (v := .tuple #[vv 0 0 ⟨#[]⟩, .bool false]) (by simp [results, show Tryd.f55.results = #[.cell 2 49, .tmp 3] from rfl, go_sem, *]) rfl ?_
      refine ⟨rfl, ?_⟩
      repeat' first | exact H1.out | refine below_put ?_ _ _ _ (by omega)
    · go_wp2_with fail
      (try simp only [Exit.inBlock, Exit.then]); refine bodyPost_ret (v := .tuple #[vv 1 m ⟨#[]⟩, .bool true]) (by simp [results, show Tryd.f55.results = #[.cell 2 49, .tmp 3] from rfl, go_sem, *]) rfl ?_
      refine ⟨rfl, ?_⟩
      repeat' first | exact H1.out | refine below_put ?_ _ _ _ (by omega)
set_option maxRecDepth 100000 in
set_option maxHeartbeats 4000000 in
theorem rVParse_0 (s : ByteArray) (w : World) (hs : s.size ≤ 140737488355328) (b1 : (s.toList == [110, 111, 110, 101]) = false) (b2 : (s.toList == [121, 101, 115]) = false) (b3 : (s.toList == [110, 111]) = false) (hpos : s.size = 0)
    (hn : ¬ (2 ≤ s.data.toList.length ∧ s.data.toList.head? = some 34 ∧ s.data.toList.getLast? = some 34)) (hf : ¬ s.data.toList.getLast? = some 102) :
    Calls Tryd.prog 55 #[.string s] w (RPOut s w) := by
  have Z0 := hid (VAt.new w 0 0 ⟨#[]⟩ _ rfl)
  have H0 := hid (below_alloc1 w (vo 0 0 ⟨#[]⟩))
  have hlen : s.data.toList.length = s.size := by rw [Array.length_toList]; rfl
  have HF := hid (rPV_1 (l := s.data.toList) (by rw [← toList_eq]; exact b1) (by rw [← toList_eq]; exact b2) (by rw [← toList_eq]; exact b3) hn hf)
  have c5 : s.size < 2 := by omega
  have hsz : s.size ≤ 9223372036854775000 := by omega
  have hN := fun w => rVnumber_any s w hsz
  rcases hv : rVnum s.data.toList with ⟨m, ok⟩
  rw [hv] at hN HF
  have HN := hid hN
  clear hN hv hn hf
  dsimp only at HN HF
  have f0 := Z0.out.fz 0; have f1 := Z0.out.fz 1; have f2 := Z0.out.fz 2
  have z0 := Z0.out.c0; have z1 := Z0.out.c1; have z2 := Z0.out.c2
  have hlz := Z0.out.lt
  unfold RPOut
  rw [HF.out]
  clear HF
  skip
  all_goals
    go_enter Tryd.func55, Tryd.ntmps55
    go_wp2_with fail
    refine (HN.out _).mono ?_
    rintro e w1 ⟨rfl, hb⟩
    have H1 := hid (below_then H0.out hb)
    have Z1 := hid (Z0.out.below hb)
    clear hb f0 f1 f2 z0 z1 z2 hlz
    have f0 := Z1.out.fz 0; have f1 := Z1.out.fz 1; have f2 := Z1.out.fz 2
    have z0 := Z1.out.c0; have z1 := Z1.out.c1; have z2 := Z1.out.c2
    have hlz := Z1.out.lt
    rcases ok with _ | _
    · go_wp2_with fail
      (try simp only [Exit.inBlock, Exit.then]); refine bodyPost_ret (v := .tuple #[vv 0 0 ⟨#[]⟩, .bool false]) (by simp [results, show Tryd.f55.results = #[.cell 2 49, .tmp 3] from rfl, go_sem, *]) rfl ?_
      refine ⟨rfl, ?_⟩
      repeat' first | exact H1.out | refine below_put ?_ _ _ _ (by omega)
    · go_wp2_with fail
      (try simp only [Exit.inBlock, Exit.then]); refine bodyPost_ret (v := .tuple #[vv 1 m ⟨#[]⟩, .bool true]) (by simp [results, show Tryd.f55.results = #[.cell 2 49, .tmp 3] from rfl, go_sem, *]) rfl ?_
      refine ⟨rfl, ?_⟩
      repeat' first | exact H1.out | refine below_put ?_ _ _ _ (by omega)
/-- Both parse alike. -/
theorem rVParse_any (s : ByteArray) (w : World) (hs : s.size ≤ 140737488355328) :
    Calls Tryd.prog 55 #[.string s] w fun e w' => e = .returned (.tuple #[vv (pParse s.toList).1.1 (pParse s.toList).1.2.1 (pParse s.toList).1.2.2, .bool (pParse s.toList).2]) ∧ Below w.heap.size w w' := by
  rw [toList_eq, ← rPV_eq]
  show Calls _ _ _ _ (RPOut s w)
  have hlen : s.data.toList.length = s.size := by rw [Array.length_toList]; rfl
  by_cases w1 : s.data.toList = [110, 111, 110, 101]
  · exact rVParse_w1 s w w1
  by_cases w2 : s.data.toList = [121, 101, 115]
  · exact rVParse_w2 s w w2
  by_cases w3 : s.data.toList = [110, 111]
  · exact rVParse_w3 s w w3
  have b1 : (s.toList == [110, 111, 110, 101]) = false := by rw [toList_eq]; simpa using w1
  have b2 : (s.toList == [121, 101, 115]) = false := by rw [toList_eq]; simpa using w2
  have b3 : (s.toList == [110, 111]) = false := by rw [toList_eq]; simpa using w3
  by_cases hn : 2 ≤ s.data.toList.length ∧ s.data.toList.head? = some 34 ∧ s.data.toList.getLast? = some 34
  · have h2 : 2 ≤ s.size := by omega
    have hh := (head34 s (by omega)).1 (by rw [toList_eq]; exact hn.2.1)
    exact rVParse_text s w hs b1 b2 b3 h2 hh ((lastB s (by omega) 34).1 hn.2.2)
  by_cases hf : s.data.toList.getLast? = some 102
  · have hpos : 0 < s.size := by
      rcases hx : s.data.toList with _ | ⟨a, l⟩
      · rw [hx] at hf; simp at hf
      · rw [hx] at hlen; simp at hlen; omega
    exact rVParse_f s w hs b1 b2 b3 hpos hn hf
  by_cases hpos : 0 < s.size
  · exact rVParse_n s w hs b1 b2 b3 hpos hn hf
  · exact rVParse_0 s w hs b1 b2 b3 (by omega) hn hf
end Go.Proofs.YtdbghnfmhgjkaaaDoor
