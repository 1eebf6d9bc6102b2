/- Layer 3: the numbers: a product of two words; the closures of Times, Add, Over. -/
import Derived.Test.YtdbghnfmhgjkaaaDoorVaA
import Derived.Lib.Mul64
import Derived.Laws.Bits64b
import Derived.Laws.Externs
namespace Go.Proofs.YtdbghnfmhgjkaaaDoor
open Go.RowKit Go.Dio
set_option linter.unusedVariables false
set_option linter.unusedSimpArgs false

theorem m_mask (a : Nat) (ha : a < 18446744073709551616) : bits .and .u64 (a : Int) 4294967295 = ((a % 4294967296 : Nat) : Int) := by
  have h := bits_and_u64_nat a 4294967295 ha (by omega)
  rw [show a &&& 4294967295 = a % 4294967296 from Nat.and_two_pow_sub_one_eq_mod a 32] at h
  exact h
theorem m_wrap (a : Nat) (ha : a < 18446744073709551616) : IntKind.u64.wrap (a : Int) = (a : Int) := by rw [IntKind.wrap_u64]; omega
theorem m_low (a : Nat) : IntKind.u64.wrap (a : Int) = ((a % 18446744073709551616 : Nat) : Int) := by rw [IntKind.wrap_u64]; omega
theorem m_div (a : Nat) : (a : Int) / 4294967296 = ((a / 4294967296 : Nat) : Int) := by omega
theorem m_mul (a b : Nat) : (a : Int) * (b : Int) = ((a * b : Nat) : Int) := (Int.natCast_mul a b).symm
theorem m_add (a b : Nat) : (a : Int) + (b : Int) = ((a + b : Nat) : Int) := (Int.natCast_add a b).symm

set_option maxHeartbeats 1000000 in
theorem Mul64_nat (x y : Nat) (hx : x < 18446744073709551616) (hy : y < 18446744073709551616) (w : World) :
    Calls Tryd.prog 72 #[.int .u64 x, .int .u64 y] w fun e w' => e = .returned (.tuple #[.int .u64 ((x * y / 18446744073709551616 : Nat) : Int), .int .u64 ((x * y % 18446744073709551616 : Nat) : Int)]) ∧ w = w' := by
  obtain ⟨g0, g1, g2, g3⟩ := Lib.mul64_hi x y hx hy
  have q1 := Lib.half_mul_le (a := x / 4294967296) (b := y / 4294967296) (by omega) (by omega)
  have q2 := Lib.half_mul_le (a := x / 4294967296) (b := y % 4294967296) (by omega) (by omega)
  have q3 := Lib.half_mul_le (a := x % 4294967296) (b := y / 4294967296) (by omega) (by omega)
  go_enter Tryd.func72, Tryd.ntmps72
  go_wp2
  simp (disch := omega) only [m_mask, m_wrap, m_div, m_mul, m_add]
  rw [m_low, g3]
  go_ret2
  exact ⟨rfl, rfl⟩
theorem add64 (x y : Int) (hx : 0 ≤ x) (hx' : x < 18446744073709551616) (hy : 0 ≤ y) (hy' : y < 18446744073709551616) (w : World) : (callFunc 73 #[.int .u64 x, .int .u64 y, .int .u64 0]).run Tryd.prog w =
    .ok (.value (.tuple #[.int .u64 ((x + y) % 18446744073709551616), .int .u64 ((x + y) / 18446744073709551616)])) w := by
  rw [run_callFunc_extern Tryd.func73 (by kernel_rfl) (by kernel_rfl) (by kernel_rfl) (e := add64Entry) (by kernel_rfl), run_add64 x y 0 (by omega) (by omega) (by omega) (by omega)]
  simp only [Result.andThen, Int.add_zero]

theorem Mul64_int (x y : Int) (hx : 0 ≤ x) (hx' : x < 18446744073709551616) (hy : 0 ≤ y) (hy' : y < 18446744073709551616) (w : World) :
    Calls Tryd.prog 72 #[.int .u64 x, .int .u64 y] w fun e w' => e = .returned (.tuple #[.int .u64 (x * y / 18446744073709551616), .int .u64 (x * y % 18446744073709551616)]) ∧ w = w' := by
  obtain ⟨x, rfl⟩ := Int.eq_ofNat_of_zero_le hx
  obtain ⟨y, rfl⟩ := Int.eq_ofNat_of_zero_le hy
  refine (Mul64_nat x y (by omega) (by omega) w).mono ?_
  rintro e w' ⟨rfl, rfl⟩
  exact ⟨by simp, rfl⟩

/-- What a product comes to. -/
def vmag (k P : Int) : Int := if k = 1 then P else (P + 32768) / 65536

theorem vmag1 (P : Int) : vmag 1 P = P := if_pos rfl
theorem vmag2 (P : Int) : vmag 2 P = (P + 32768) / 65536 := if_neg (by decide)
theorem or48 (h b : Int) (h0 : 0 ≤ h) (h1 : h < 65536) (b0 : 0 ≤ b) (b1 : b < 281474976710656) : bits .or .u64 (h * 281474976710656) b = h * 281474976710656 + b := by
  obtain ⟨h, rfl⟩ := Int.eq_ofNat_of_zero_le h0
  obtain ⟨b, rfl⟩ := Int.eq_ofNat_of_zero_le b0
  have e := bits_or_u64_nat (h * 281474976710656) b (by omega) (by omega)
  have e2 : h * 281474976710656 ||| b = h * 281474976710656 + b := by
    have := Nat.shiftLeft_add_eq_or_of_lt (b := b) (i := 48) (by omega) h
    rw [Nat.shiftLeft_eq] at this
    exact this.symm
  rw [e2] at e
  simpa using e

set_option maxRecDepth 100000 in
set_option maxHeartbeats 1000000 in
theorem timesC (k x y : Int) (p : Nat) (w : World) (hk : k = 1 ∨ k = 2) (hx : 0 ≤ x) (hx' : x ≤ 1099511627776) (hy : 0 ≤ y) (hy' : y ≤ 1099511627776) (hc : w.cell? ⟨p, 0, none⟩ = some (.int .i64 k)) :
    Calls Tryd.prog 71 #[.int .u64 x, .int .u64 y, .pointer (some ⟨p, 0, none⟩)] w fun e w' =>
      (∃ m er, e = .returned (.tuple #[.int .u64 m, .int .i64 er]) ∧ (er = 0 ∧ m = vmag k (x * y) ∧ 0 ≤ m ∧ m < 18446744073709551616 ∨ er = 30 ∧ 1099511627776 < vmag k (x * y))) ∧ Below w.heap.size w w' := by
  have hP0 : 0 ≤ x * y := Int.mul_nonneg hx hy
  have hP1 : x * y ≤ 1099511627776 * 1099511627776 := Int.mul_le_mul hx' hy' hy (by omega)
  have hmul := Mul64_int x y hx (by omega) hy (by omega)
  generalize x * y = P at *
  rcases hk with rfl | rfl
  · by_cases hh : 0 < P / 18446744073709551616
    · go_enter Tryd.func71, Tryd.ntmps71
      go_wp2_with fail
      refine (hmul _).mono ?_
      rintro e w1 ⟨rfl, rfl⟩
      go_wp2_with fail
      go_ret2
      exact ⟨⟨_, _, rfl, .inr ⟨rfl, by rw [vmag1]; omega⟩⟩, Below.refl _ _⟩
    · go_enter Tryd.func71, Tryd.ntmps71
      go_wp2_with fail
      refine (hmul _).mono ?_
      rintro e w1 ⟨rfl, rfl⟩
      go_wp2_with fail
      go_ret2
      exact ⟨⟨_, _, rfl, .inl ⟨rfl, by rw [vmag1]; omega, by omega, by omega⟩⟩, Below.refl _ _⟩
  · have hadd := fun w => add64 (P % 18446744073709551616) 32768 (by omega) (by omega) (by omega) (by omega) w
    by_cases hh : 0 < (P / 18446744073709551616 + (P % 18446744073709551616 + 32768) / 18446744073709551616) / 65536
    · go_enter Tryd.func71, Tryd.ntmps71
      go_wp2_with fail
      refine (hmul _).mono ?_
      rintro e w1 ⟨rfl, rfl⟩
      go_wp2_with (simp only [hadd])
      go_ret2
      exact ⟨⟨_, _, rfl, .inr ⟨rfl, by rw [vmag2]; omega⟩⟩, Below.refl _ _⟩
    · go_enter Tryd.func71, Tryd.ntmps71
      go_wp2_with fail
      refine (hmul _).mono ?_
      rintro e w1 ⟨rfl, rfl⟩
      go_wp2_with (simp only [hadd])
      rw [or48 _ _ (by omega) (by omega) (by omega) (by omega)]
      go_ret2
      exact ⟨⟨_, _, rfl, .inl ⟨rfl, by rw [vmag2]; omega, by omega, by omega⟩⟩, Below.refl _ _⟩

/-- What a quotient comes to. -/
def vquo (k x y : Int) : Int := if k = 1 then x / y else x * 65536 / y + (if y ≤ 2 * (x * 65536 % y) then 1 else 0)
theorem vquo1 (x y : Int) : vquo 1 x y = x / y := if_pos rfl
theorem vquo2 (x y : Int) : vquo 2 x y = x * 65536 / y + (if y ≤ 2 * (x * 65536 % y) then 1 else 0) := if_neg (by decide)

theorem addC (x y : Int) (w : World) :
    Calls Tryd.prog 79 #[.int .u64 x, .int .u64 y] w fun e w' => e = .returned (.tuple #[.int .u64 0, .int .i64 0]) ∧ w = w' := by
  go_enter Tryd.func79, Tryd.ntmps79
  go_wp2_with fail
  go_ret2
  exact ⟨rfl, rfl⟩

set_option maxRecDepth 100000 in
set_option maxHeartbeats 1000000 in
theorem overC (k x y : Int) (p : Nat) (w : World) (hk : k = 1 ∨ k = 2) (hx : 0 ≤ x) (hx' : x ≤ 1099511627776) (hy : 0 ≤ y) (hy' : y ≤ 1099511627776) (hc : w.cell? ⟨p, 0, none⟩ = some (.int .i64 k)) :
    Calls Tryd.prog 80 #[.int .u64 x, .int .u64 y, .pointer (some ⟨p, 0, none⟩)] w fun e w' =>
      (∃ m er, e = .returned (.tuple #[.int .u64 m, .int .i64 er]) ∧ (er = 0 ∧ y ≠ 0 ∧ m = vquo k x y ∧ 0 ≤ m ∧ m < 18446744073709551616 ∨ er = 31 ∧ y = 0)) ∧ Below w.heap.size w w' := by
  by_cases hy0 : y = 0
  · subst hy0
    go_enter Tryd.func80, Tryd.ntmps80
    go_wp2_with fail
    go_ret2
    exact ⟨⟨_, _, rfl, .inr ⟨rfl, trivial⟩⟩, Below.refl _ _⟩
  · have hy1 : (y == 0) = false := by simp; omega
    rcases hk with rfl | rfl
    · go_enter Tryd.func80, Tryd.ntmps80
      go_wp2_with fail
      go_ret2
      exact ⟨⟨_, _, rfl, .inl ⟨rfl, hy0, by rw [vquo1], Int.ediv_nonneg hx hy, by have := Int.ediv_le_self y hx; omega⟩⟩, Below.refl _ _⟩
    · have hD : (x * 65536).tdiv y = x * 65536 / y := Int.tdiv_eq_ediv_of_nonneg (by omega)
      have hR : (x * 65536).tmod y = x * 65536 % y := Int.tmod_eq_emod_of_nonneg (by omega)
      have hD0 : 0 ≤ x * 65536 / y := Int.ediv_nonneg (by omega) hy
      have hD1 : x * 65536 / y ≤ x * 65536 := Int.ediv_le_self y (by omega)
      have hR0 : 0 ≤ x * 65536 % y := Int.emod_nonneg _ hy0
      have hR1 : x * 65536 % y < y := Int.emod_lt_of_pos _ (by omega)
      go_enter Tryd.func80, Tryd.ntmps80
      go_wp2_with fail
      refine wp_region_held_drew (S := fun w' => True) (by kernel_rfl) trivial (fun hHeld => ?_)
      refine takeL 0 (v := ?_) rfl (by kernel_rfl) (by kernel_rfl) (by kernel_rfl) (fun _ _ _ h => h) (by rfl) ?_ (by assumption) ?_
      case' refine_2 => (intro w hSw; (try dsimp only at hSw); go_simp; try with_reducible rfl)
      try simp only [Act.put, List.setIfInBounds_toArray, List.set_cons_zero, List.set_cons_succ]
      refine takeL 1 (v := ?_) rfl (by kernel_rfl) (by kernel_rfl) (by kernel_rfl) (fun _ _ _ h => h) (by rfl) ?_ (by assumption) ?_
      case' refine_2 => (intro w hSw; (try dsimp only at hSw); go_simp; try with_reducible rfl)
      try simp only [Act.put, List.setIfInBounds_toArray, List.set_cons_zero, List.set_cons_succ]
      refine takeL 2 (v := ?_) rfl (by kernel_rfl) (by kernel_rfl) (by kernel_rfl) (fun _ _ _ h => h) (by rfl) ?_ (by assumption) ?_
      case' refine_2 => (intro w hSw; (try dsimp only at hSw); go_simp; try with_reducible rfl)
      try simp only [Act.put, List.setIfInBounds_toArray, List.set_cons_zero, List.set_cons_succ]
      refine takeL 3 (v := ?_) rfl (by kernel_rfl) (by kernel_rfl) (by kernel_rfl) (fun _ _ _ h => h) (by rfl) ?_ (by assumption) ?_
      case' refine_2 => (intro w hSw; (try dsimp only at hSw); go_simp; try with_reducible rfl)
      try simp only [Act.put, List.setIfInBounds_toArray, List.set_cons_zero, List.set_cons_succ]
      refine takeL 4 (v := ?_) rfl (by kernel_rfl) (by kernel_rfl) (by kernel_rfl) (fun _ _ _ h => h) (by rfl) ?_ (by assumption) ?_
      case' refine_2 => (intro w hSw; (try dsimp only at hSw); go_simp; try with_reducible rfl)
      try simp only [Act.put, List.setIfInBounds_toArray, List.set_cons_zero, List.set_cons_succ]
      refine takeL 5 (v := ?_) rfl (by kernel_rfl) (by kernel_rfl) (by kernel_rfl) (fun _ _ _ h => h) (by rfl) ?_ (by assumption) ?_
      case' refine_2 => (intro w hSw; (try dsimp only at hSw); go_simp; try with_reducible rfl)
      try simp only [Act.put, List.setIfInBounds_toArray, List.set_cons_zero, List.set_cons_succ]
      refine takeL 6 (v := ?_) rfl (by kernel_rfl) (by kernel_rfl) (by kernel_rfl) (fun _ _ _ h => h) (by rfl) ?_ (by assumption) ?_
      case' refine_2 => (intro w hSw; (try dsimp only at hSw); go_simp; try with_reducible rfl)
      try simp only [Act.put, List.setIfInBounds_toArray, List.set_cons_zero, List.set_cons_succ]
      refine takeL 7 (v := ?_) rfl (by kernel_rfl) (by kernel_rfl) (by kernel_rfl) (fun _ _ _ h => h) (by rfl) ?_ (by assumption) ?_
      case' refine_2 => (intro w hSw; (try dsimp only at hSw); go_simp; try with_reducible rfl)
      try simp only [Act.put, List.setIfInBounds_toArray, List.set_cons_zero, List.set_cons_succ]
      refine wpAnyH_done (by kernel_rfl) ?_ _
      go_wp2_with fail
      · go_ret2
        exact ⟨⟨_, _, rfl, .inl ⟨rfl, hy0, by rw [vquo2, if_pos (by omega)], by omega, by omega⟩⟩, (Below.refl _ _).drew⟩
      · rw [show IntKind.u64.wrap (x * 65536 / y) = x * 65536 / y by rw [IntKind.wrap_u64]; omega]
        go_ret2
        exact ⟨⟨_, _, rfl, .inl ⟨rfl, hy0, by rw [vquo2, if_neg (by omega), Int.add_zero], by omega, by omega⟩⟩, (Below.refl _ _).drew⟩
end Go.Proofs.YtdbghnfmhgjkaaaDoor
