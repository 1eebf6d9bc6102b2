/- Layer 3: values as bytes, and back. -/
import Derived.Test.YtnakanophilfhaaDoorVaH
import Derived.Test.YtnakanophilfhaaDoorSpB
namespace Go.Proofs.YtnakanophilfhaaDoor
open Go.RowKit Go.Dio
set_option linter.unusedVariables false
set_option linter.unusedSimpArgs false

/-- A number with its sign in the last bit. -/
def zig (n : Int) : Int := if n < 0 then -(2 * n) - 1 else 2 * n
/-- A value's bytes. -/
def vB (k n : Int) (s : ByteArray) : List UInt8 :=
  numB k.toNat ++ (if k = 1 ∨ k = 2 then numB (zig n).toNat else if k = 4 then numB n.toNat else if k = 3 then textB s.data.toList else [])
theorem vright_cases {k n : Int} {s : ByteArray} (h : vright k n s = true) : (k = 0 ∧ n = 0 ∧ s = ⟨#[]⟩) ∨ ((k = 1 ∨ k = 2) ∧ (-1099511627776 ≤ n ∧ n ≤ 1099511627776) ∧ s = ⟨#[]⟩) ∨ (k = 3 ∧ n = 0 ∧ goodB s = true) ∨ (k = 4 ∧ (n = 0 ∨ n = 1) ∧ s = ⟨#[]⟩) := by
  unfold vright at h
  split at h
  · rename_i hk
    simp only [Bool.and_eq_true, decide_eq_true_eq] at h
    exact .inl ⟨hk, h.1, (emp_iff s).1 h.2⟩
  · split at h
    · rename_i hk
      simp only [Bool.and_eq_true, decide_eq_true_eq] at h
      exact .inr (.inl ⟨hk, h.1, (emp_iff s).1 h.2⟩)
    · split at h
      · rename_i hk
        simp only [Bool.and_eq_true, decide_eq_true_eq] at h
        exact .inr (.inr (.inl ⟨hk, h.1, h.2⟩))
      · split at h
        · rename_i hk
          simp only [Bool.and_eq_true, decide_eq_true_eq] at h
          exact .inr (.inr (.inr ⟨hk, h.1, (emp_iff s).1 h.2⟩))
        · cases h
theorem goodB_len {s : ByteArray} (h : goodB s = true) : s.size ≤ 64 := by
  simp only [goodB, decide_eq_true_eq] at h
  exact h.2

theorem VPut_no (k n : Int) (s : ByteArray) (w : World) (hs : s.size ≤ 9223372036854775807) (hr : vright k n s = false) : Calls Tryd.prog 52 #[vv k n s] w fun e w' => e = .returned (.tuple #[.slice none 0 0, .int .i64 1]) ∧ Below w.heap.size w w' := by
  go_enter Tryd.func52, Tryd.ntmps52
  go_wp2_with fail
  refine (VRight_any k n s _ hs).mono ?_
  rw [hr]
  rintro e w1 ⟨rfl, hb1⟩
  have H1 := hid (below_then (below_alloc1 _ _) hb1)
  clear hb1
  go_wp2_with fail
  go_ret2
  exact ⟨rfl, H1.out⟩

theorem not_neg (m : Int) (h : m < 0) (h' : -9223372036854775808 ≤ m) : bits .xor .i64 (-1) m = -m - 1 := by
  have e1 : BitVec.ofInt IntKind.i64.bits (-1) = BitVec.allOnes IntKind.i64.bits := by decide
  have e2 : (BitVec.ofInt IntKind.i64.bits m).toNat = (m + 18446744073709551616).toNat := by
    rw [BitVec.toNat_ofInt]
    show (m % ((2 ^ 64 : Nat) : Int)).toNat = _
    congr 1
    omega
  simp only [bits]
  rw [e1, BitVec.allOnes_xor, BitVec.toNat_not, e2]
  show IntKind.i64.wrap (((2 ^ 64 - 1 - (m + 18446744073709551616).toNat : Nat)) : Int) = _
  rw [IntKind.wrap_i64]
  omega
set_option maxRecDepth 100000 in
set_option maxHeartbeats 2000000 in
theorem VPut_ok (k n : Int) (s : ByteArray) (w : World) (hs : s.size ≤ 9223372036854775807) (hr : vright k n s = true) : Calls Tryd.prog 52 #[vv k n s] w (OutB2 5 w (vB k n s) 0) := by
  have hc := vright_cases hr
  have V0 := hid (VAt.new w k n s _ rfl)
  have hk : 0 ≤ k ∧ k < 5 := by rcases hc with ⟨rfl, _⟩ | ⟨h | h, _⟩ | ⟨rfl, _⟩ | ⟨rfl, _⟩ <;> omega
  obtain ⟨kn, rfl⟩ := Int.eq_ofNat_of_zero_le hk.1
  have HC := hid hc
  have HR := hid hr
  clear hc hr
  go_enter Tryd.func52, Tryd.ntmps52
  go_wp2_with fail
  refine (VRight_any kn n s _ hs).mono ?_
  rw [HR.out]
  rintro e w1 ⟨rfl, hb1⟩
  have H1 := hid (below_then (below_alloc1 _ _) hb1)
  have V1 := hid (V0.out.below hb1)
  clear hb1
  have a0 := V1.out.c0
  go_wp2_with fail
  refine (Num_ok kn _ (by omega)).mono ?_
  rintro e w2 ⟨v1, rfl, ho1, hb2⟩
  have H2 := hid (below_then H1.out hb2)
  have V2 := hid (V1.out.below hb2)
  have O2 := hid (ho1.lower H1.out.size)
  have l1 := numB_le kn (by omega)
  clear hb2 a0 ho1
  have a0 := V2.out.c0; have a1 := V2.out.c1; have a2 := V2.out.c2
  rcases HC.out with ⟨hk0, rfl, rfl⟩ | ⟨hk12, hn, rfl⟩ | ⟨hk3, rfl, hg⟩ | ⟨hk4, hn, rfl⟩
  · obtain rfl : kn = 0 := by omega
    go_wp2_with fail
    go_ret2
    exact ⟨_, rfl, by rw [vB]; simpa using O2.out, H2.out⟩
  · have hzz : 0 ≤ zig n ∧ zig n < 281474976710656 := by unfold zig; split <;> omega
    obtain ⟨z, hz⟩ := Int.eq_ofNat_of_zero_le hzz.1
    have hvB : vB (kn : Int) n ⟨#[]⟩ = numB kn ++ numB z := by rw [vB, if_pos hk12, hz]; simp
    have hzb : z < 281474976710656 := by omega
    have HVB := hid hvB
    have HZ := hid hz
    clear hvB hz
    have hk' : kn = 1 ∨ kn = 2 := by omega
    clear hk12
    by_cases hneg : n < 0
    · have hx : bits .xor .i64 (-1) (2 * n) = (z : Int) := by rw [not_neg _ (by omega) (by omega), ← HZ.out, zig, if_pos hneg]
      rcases hk' with rfl | rfl
      all_goals
        go_wp2_with fail
        refine (Num_ok z _ (by omega)).mono ?_
        rintro e w3 ⟨v2, rfl, ho2, hb3⟩
        obtain ⟨A2, n2, c2, rfl, hI2, -⟩ := ho2.form
        have H3 := hid (below_then H2.out hb3)
        have O3 := hid (O2.out.below hb3)
        have I3 := hid hI2
        have l2 : n2 ≤ 8 := by rw [← hI2.len]; exact numB_le z (by omega)
        clear hb3 ho2 hI2
        go_wp2_with (at_builtin; refine wpList_append_b (w0 := w) w.heap.size rfl _ _ 31 5 rfl Tryd.underlying31 info_u8 _ n2 _ (numB z) A2 c2 rfl rfl O3.out I3.out H3.out H3.out.size (by omega) ?_)
        intro v4 w4 ho4 hb4 hg4 hat4
        clear hg4 hat4
        go_wp2
        go_ret2
        exact ⟨_, rfl, by rw [HVB.out]; exact ho4, hb4⟩
    · have hx : 2 * n = (z : Int) := by rw [← HZ.out, zig, if_neg hneg]
      rcases hk' with rfl | rfl
      all_goals
        go_wp2_with fail
        refine (Num_ok z _ (by omega)).mono ?_
        rintro e w3 ⟨v2, rfl, ho2, hb3⟩
        obtain ⟨A2, n2, c2, rfl, hI2, -⟩ := ho2.form
        have H3 := hid (below_then H2.out hb3)
        have O3 := hid (O2.out.below hb3)
        have I3 := hid hI2
        have l2 : n2 ≤ 8 := by rw [← hI2.len]; exact numB_le z (by omega)
        clear hb3 ho2 hI2
        go_wp2_with (at_builtin; refine wpList_append_b (w0 := w) w.heap.size rfl _ _ 31 5 rfl Tryd.underlying31 info_u8 _ n2 _ (numB z) A2 c2 rfl rfl O3.out I3.out H3.out H3.out.size (by omega) ?_)
        intro v4 w4 ho4 hb4 hg4 hat4
        clear hg4 hat4
        go_wp2
        go_ret2
        exact ⟨_, rfl, by rw [HVB.out]; exact ho4, hb4⟩
  · obtain rfl : kn = 3 := by omega
    have hsz := goodB_len hg
    have HG := hid hg
    clear hg
    go_wp2_with fail
    refine (Text_ok s _ (by omega)).mono ?_
    rintro e w3 ⟨v2, rfl, ho2, hb3⟩
    obtain ⟨A2, n2, c2, rfl, hI2, -⟩ := ho2.form
    have H3 := hid (below_then H2.out hb3)
    have O3 := hid (O2.out.below hb3)
    have I3 := hid hI2
    have l2 : n2 ≤ 100 := by
      have e : s.data.toList.length = s.size := by rw [Array.length_toList]; rfl
      rw [← hI2.len, textB, List.length_append, e]
      have := numB_le s.size (by omega)
      omega
    clear hb3 ho2 hI2
    go_wp2_with (at_builtin; refine wpList_append_b (w0 := w) w.heap.size rfl _ _ 31 5 rfl Tryd.underlying31 info_u8 _ n2 (numB 3) (textB s.data.toList) A2 c2 rfl rfl O3.out I3.out H3.out H3.out.size (by omega) ?_)
    intro v4 w4 ho4 hb4 hg4 hat4
    clear hg4 hat4
    go_wp2
    go_ret2
    exact ⟨_, rfl, by rw [vB]; simpa using ho4, hb4⟩
  · obtain rfl : kn = 4 := by omega
    obtain ⟨m, hm⟩ := Int.eq_ofNat_of_zero_le (show 0 ≤ n by omega)
    subst hm
    go_wp2_with fail
    refine (Num_ok m _ (by omega)).mono ?_
    rintro e w3 ⟨v2, rfl, ho2, hb3⟩
    obtain ⟨A2, n2, c2, rfl, hI2, -⟩ := ho2.form
    have H3 := hid (below_then H2.out hb3)
    have O3 := hid (O2.out.below hb3)
    have I3 := hid hI2
    have l2 : n2 ≤ 8 := by rw [← hI2.len]; exact numB_le m (by omega)
    clear hb3 ho2 hI2
    go_wp2_with (at_builtin; refine wpList_append_b (w0 := w) w.heap.size rfl _ _ 31 5 rfl Tryd.underlying31 info_u8 _ n2 (numB 4) (numB m) A2 c2 rfl rfl O3.out I3.out H3.out H3.out.size (by omega) ?_)
    intro v4 w4 ho4 hb4 hg4 hat4
    clear hg4 hat4
    go_wp2
    go_ret2
    exact ⟨_, rfl, by rw [vB]; simpa using ho4, hb4⟩
end Go.Proofs.YtnakanophilfhaaDoor
