/- A value's text is parsed as it was written. -/
import Derived.Test.YtdbghnfmhgjkaaaDoorVcP
namespace Go.Proofs.YtdbghnfmhgjkaaaDoor
open Go.RowKit Go.Dio
set_option linter.unusedVariables false
set_option linter.unusedSimpArgs false

theorem suff_no {l : List UInt8} (h : ∀ x ∈ l, x ≠ 102) : Lib.hasSuffix l [102] = false := by
  unfold Lib.hasSuffix
  rw [Bool.eq_false_iff]
  intro hs
  have := List.isSuffixOf_iff_suffix.1 hs
  exact h 102 (this.subset (by simp)) rfl
theorem suff_yes (l : List UInt8) : Lib.hasSuffix (l ++ [102]) [102] = true := by
  unfold Lib.hasSuffix
  exact List.isSuffixOf_iff_suffix.2 (List.suffix_append _ _)
theorem itoa_ne102 {n : Int} {x : UInt8} (h : x ∈ Lib.itoa n) : x ≠ 102 := fun e => by
  have := itoa_mem h; subst e; simp at this
theorem itoa_cons (n : Int) : ∃ c r, Lib.itoa n = c :: r ∧ (c.toNat = 45 ∨ 48 ≤ c.toNat ∧ c.toNat ≤ 57) := by
  rcases hx : Lib.itoa n with _ | ⟨c, r⟩
  · unfold Lib.itoa at hx
    split at hx
    · cases hx
    · obtain ⟨c, r, e⟩ := dig_cons n.toNat
      rw [e] at hx; cases hx
  · exact ⟨c, r, rfl, itoa_mem (n := n) (by rw [hx]; simp)⟩
theorem first_no {c : UInt8} {r q : List UInt8} {d : UInt8} (hc : c.toNat = 45 ∨ 48 ≤ c.toNat ∧ c.toNat ≤ 57) (hd : 58 ≤ d.toNat) : ((c :: r) == (d :: q)) = false := by
  rw [beq_eq_false_iff_ne]
  intro e
  injection e with e1 _
  subst e1
  omega
theorem pv0_num {l : List UInt8} {c : UInt8} {r : List UInt8} (hl : l = c :: r) (hc : c.toNat = 45 ∨ 48 ≤ c.toNat ∧ c.toNat ≤ 57) :
    pv0 l = match Lib.atoiAll (Lib.trimSuffix l [102]) with
      | .ok n => if Lib.hasSuffix l [102] = true then (2, n, ⟨#[]⟩) else (1, n, ⟨#[]⟩)
      | _ => (0, 0, ⟨#[]⟩) := by
  subst hl
  refine pv0_no (first_no hc (by decide)) (first_no hc (by decide)) (first_no hc (by decide)) ?_
  rintro ⟨_, h⟩
  simp only [List.head?_cons, Option.some.injEq] at h
  subst h
  simp at hc
theorem prV_ok {k n : Int} {s : ByteArray} (h : vright k n s = true) : prV k n s = (if k = 0 then [110, 111, 110, 101] else if k = 3 then 34 :: (s.data.toList ++ [34]) else if k = 1 then Lib.itoa n else if k = 2 then Lib.itoa n ++ [102] else if n = 1 then [121, 101, 115] else [110, 111]) := by rw [prV, if_pos h]
theorem pv0_back {k n : Int} {s : ByteArray} (h : vright k n s = true) : pv0 (prV k n s) = (k, n, s) ∧ prV k n s ≠ [] := by
  have hp := prV_ok h
  rcases vright_cases h with ⟨rfl, rfl, rfl⟩ | ⟨hk, hn, rfl⟩ | ⟨rfl, rfl, hg⟩ | ⟨rfl, hn, rfl⟩
  · rw [hp, if_pos rfl]
    exact ⟨rfl, by simp⟩
  · have hat := atoi_itoa n (by omega) (by omega)
    obtain ⟨c, r, hc, hcc⟩ := itoa_cons n
    rcases hk with rfl | rfl
    · rw [hp, if_neg (by decide), if_neg (by decide), if_pos rfl]
      have hs : Lib.hasSuffix (Lib.itoa n) [102] = false := suff_no fun x hx => itoa_ne102 hx
      have ht : Lib.trimSuffix (Lib.itoa n) [102] = Lib.itoa n := by unfold Lib.trimSuffix; rw [if_neg (by simp [hs])]
      refine ⟨?_, by rw [hc]; simp⟩
      rw [pv0_num hc hcc, ht, hat, hs]
      rfl
    · rw [hp, if_neg (by decide), if_neg (by decide), if_neg (by decide), if_pos rfl]
      have hs := suff_yes (Lib.itoa n)
      have ht : Lib.trimSuffix (Lib.itoa n ++ [102]) [102] = Lib.itoa n := by
        unfold Lib.trimSuffix; rw [if_pos hs, List.length_append]; simp
      refine ⟨?_, by simp⟩
      rw [pv0_num (c := c) (r := r ++ [102]) (by rw [hc]; rfl) hcc, ht, hat, hs]
      rfl
  · rw [hp, if_neg (by decide), if_pos rfl]
    refine ⟨?_, by simp⟩
    rw [pv0_text (by rw [beq_eq_false_iff_ne]; simp) (by rw [beq_eq_false_iff_ne]; simp) (by rw [beq_eq_false_iff_ne]; simp) ⟨by simp, rfl⟩]
    simp [mkS_data]
  · rcases hn with rfl | rfl
    · rw [hp, if_neg (by decide), if_neg (by decide), if_neg (by decide), if_neg (by decide), if_neg (by decide)]
      exact ⟨rfl, by simp⟩
    · rw [hp, if_neg (by decide), if_neg (by decide), if_neg (by decide), if_neg (by decide), if_pos rfl]
      exact ⟨rfl, by simp⟩
theorem pParse_back {k n : Int} {s : ByteArray} (h : vright k n s = true) : pParse (mkS (prV k n s)).toList = ((k, n, s), true) := by
  obtain ⟨h1, h2⟩ := pv0_back h
  have e : (mkS (prV k n s)).toList = prV k n s := by rw [toList_eq, mkS_toList]
  rw [e]
  exact pParse_ok h2 h1 rfl
theorem pParse_empty : pParse (mkS []).toList = ((0, 0, ⟨#[]⟩), false) := pParse_nil (by rw [toList_eq, mkS_toList])
/-- What is parsed may be, and is written as it was. -/
theorem pParse_true {l : List UInt8} {k n : Int} {t : ByteArray} (h : pParse l = ((k, n, t), true)) : vright k n t = true ∧ prV k n t = l := by
  unfold pParse at h
  split at h
  · simp at h
  · rename_i hq
    simp only [Prod.mk.injEq, and_true] at h
    simp only [not_or, ne_eq, Decidable.not_not] at hq
    obtain ⟨h0, h1⟩ := hq
    rw [h] at h1
    simp only at h1
    refine ⟨?_, h1⟩
    rcases hv : vright k n t with _ | _
    · have : prV k n t = [] := by rw [prV, if_neg (by simp [hv])]
      rw [this] at h1
      exact absurd h1.symm h0
    · rfl
theorem prV_len {k n : Int} {s : ByteArray} : (mkS (prV k n s)).size ≤ 70 := by
  rw [mkS_size]
  rcases hv : vright k n s with _ | _
  · rw [prV, if_neg (by simp [hv])]; simp
  · have hp := prV_ok hv
    rcases vright_cases hv with ⟨rfl, rfl, rfl⟩ | ⟨hk, hn, rfl⟩ | ⟨rfl, rfl, hg⟩ | ⟨rfl, hn, rfl⟩
    · rw [hp, if_pos rfl]; simp
    · have := itoa_len n (by omega) (by omega)
      rcases hk with rfl | rfl
      · rw [hp, if_neg (by decide), if_neg (by decide), if_pos rfl]; omega
      · rw [hp, if_neg (by decide), if_neg (by decide), if_neg (by decide), if_pos rfl, List.length_append, List.length_singleton]; omega
    · have := goodB_len hg
      have e : s.data.size = s.size := rfl
      rw [hp, if_neg (by decide), if_pos rfl, List.length_cons, List.length_append, Array.length_toList, List.length_singleton]; omega
    · rcases hn with rfl | rfl
      · rw [hp, if_neg (by decide), if_neg (by decide), if_neg (by decide), if_neg (by decide), if_neg (by decide)]; simp
      · rw [hp, if_neg (by decide), if_neg (by decide), if_neg (by decide), if_neg (by decide), if_pos rfl]; simp
end Go.Proofs.YtdbghnfmhgjkaaaDoor
