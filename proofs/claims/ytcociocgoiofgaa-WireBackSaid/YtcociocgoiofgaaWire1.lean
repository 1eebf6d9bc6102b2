/- wire: number. -/
import Derived.Test.YtcociocgoiofgaaRows
import Derived.Test.YtcociocgoiofgaaPure1
namespace Go.Proofs.Ytcociocgoiofgaa
open Go.RowKit Go.Dio
set_option linter.unusedVariables false
set_option linter.unusedSimpArgs false

set_option maxHeartbeats 1000000 in
theorem number_any (A : Option Addr) (n c : Nat) (xs : List UInt8) (w : World) (h : IsB w A n c xs) :
    Calls Try.prog 97 #[.slice A n c] w fun e w' => e = .returned (.tuple #[.int .i64 (numL xs).1, .int .i64 (numL xs).2.1, .int .i64 (numL xs).2.2]) ∧ w' = w := by
  by_cases c0 : n = 0
  · have hl := h.len
    have F := hid (show numL xs = (0, 0, 20) by rw [c0] at hl; rw [List.eq_nil_of_length_eq_zero hl]; rfl)
    subst c0
    clear hl h
    go_enter Try.func97, Try.ntmps97
    go_wp2
    refine wp_scope_fwd 0 rfl ?_
    go_wp2
    go_step3
    refine ⟨rfl, (show Code.wp _ _ _ _ _ from ?_)⟩
    go_wp2
    rw [Exit.noGoto_ret]
    go_ret3
    rw [F.out]
    exact ⟨rfl, rfl⟩
  obtain ⟨b, o, rfl, hcell⟩ := h.some (by omega)
  obtain ⟨hl, hc, hm, -⟩ := h
  obtain ⟨f1, f2, f3, f4, f5, f6⟩ := numL_cases xs (by omega)
  rw [hl] at f3 f4 f5 f6
  have h0 : w.cell? ⟨b, o, none⟩ = some (.int .u8 (gb xs 0)) := hcell 0 (by omega)
  have kl := gb_lo xs 0
  have kh := gb_hi xs 0
  have hn0 : 0 < n := by omega
  have hn1 : ((n : Int) == 0) = false := by simp; omega
  have hb := be_take (xs.drop 1)
  have H1 := hid hcell; clear hcell
  have HL := hid hl; clear hl
  have HB := hid hb; clear hb
  generalize hk0 : gb xs 0 = k0 at *
  have HK0 := hid hk0; clear hk0
  by_cases c1 : 6 < k0
  · have F := hid (f1 c1); clear f1 f2 f3 f4 f5 f6
    go_enter Try.func97, Try.ntmps97
    go_wp2
    refine wp_scope_fwd 0 rfl ?_
    go_wp2
    rw [Exit.jump_ret]
    go_ret3
    rw [F.out]
    exact ⟨rfl, rfl⟩
  by_cases c2 : k0 = 0
  · have F := hid (f2 c2); clear f1 f2 f3 f4 f5 f6
    go_enter Try.func97, Try.ntmps97
    go_wp2
    refine wp_scope_fwd 0 rfl ?_
    go_wp2
    all_goals
      apply wp_loop_once
      go_wp2
      rw [Exit.jump_ret]
      go_ret3
      rw [F.out]
      exact ⟨rfl, rfl⟩
  have c2' : 0 < k0 := by omega
  have c1' : k0 ≤ 6 := by omega
  by_cases c3 : n = 1
  · have F := hid (f3 c2' c1' c3); clear f1 f2 f3 f4 f5 f6
    have hn3 : n ≤ 1 := by omega
    clear c3
    go_enter Try.func97, Try.ntmps97
    go_wp2
    refine wp_scope_fwd 0 rfl ?_
    go_wp2
    go_step3
    refine ⟨rfl, (show Code.wp _ _ _ _ _ from ?_)⟩
    go_wp2
    rw [Exit.noGoto_ret]
    go_ret3
    rw [F.out]
    exact ⟨rfl, rfl⟩
  have hn2 : 1 < n := by omega
  have hy : w.cell? ⟨b, o + 1, none⟩ = some (.int .u8 (gb xs 1)) := H1.out 1 (by omega)
  have y1 := gb_lo xs 1
  have y2 := gb_hi xs 1
  generalize hk1 : gb xs 1 = k1 at *
  have HK1 := hid hk1; clear hk1
  by_cases c4 : k1 = 0
  · have F := hid (f4 c2' c1' hn2 c4); clear f1 f2 f3 f4 f5 f6
    have hy1 : (k1 == 0) = true := by simp [c4]
    clear c4
    go_enter Try.func97, Try.ntmps97
    go_wp2
    refine wp_scope_fwd 0 rfl ?_
    go_wp2
    rw [Exit.jump_ret]
    go_ret3
    rw [F.out]
    exact ⟨rfl, rfl⟩
  have hy1 : (k1 == 0) = false := by simp [c4]
  by_cases c5 : (n : Int) < k0 + 1
  · have F := hid (f5 c2' c1' hn2 c4 c5); clear f1 f2 f3 f4 f5 f6
    go_enter Try.func97, Try.ntmps97
    go_wp2
    refine wp_scope_fwd 0 rfl ?_
    go_wp2
    go_step3
    refine ⟨rfl, (show Code.wp _ _ _ _ _ from ?_)⟩
    go_wp2
    rw [Exit.noGoto_ret]
    go_ret3
    rw [F.out]
    exact ⟨rfl, rfl⟩
  have F := hid (f6 c2' c1' hn2 c4 (by omega))
  clear f1 f2 f3 f4 f5 f6
  go_enter Try.func97, Try.ntmps97
  go_wp2
  refine wp_scope_fwd 0 rfl ?_
  go_wp2
  go_loop [2, 6, 40] (fun v2 v6 v40 => ∃ i : Nat, (i : Int) ≤ k0 ∧ v40 = .int .i64 i ∧ v2 = .int .i64 (be ((xs.drop 1).take i))) (fun _ _ v40 => (k0 - intOf v40).toNat)
  case atStart => exact ⟨0, by omega, rfl, rfl⟩
  case round =>
    obtain ⟨i, hi, rfl, rfl⟩ := hrel
    have hqb : be ((xs.drop 1).take i) < 281474976710656 := by
      have h1 := be_lt ((xs.drop 1).take i)
      have h2 : ((xs.drop 1).take i).length ≤ 6 := by rw [List.length_take]; omega
      have h3 := Nat.pow_le_pow_right (show 0 < 256 by omega) h2
      omega
    by_cases hlt : (i : Int) < k0
    · have hc1 : w.cell? ⟨b, o + 1 + i, none⟩ = some (.int .u8 (gb xs (1 + i))) := by
        rw [Nat.add_assoc]; exact H1.out (1 + i) (by omega)
      have g1 := gb_lo xs (1 + i)
      have g2 := gb_hi xs (1 + i)
      have hsn := HB.out i (by rw [List.length_drop, HL.out]; omega)
      rw [show gb (xs.drop 1) i = gb xs (1 + i) by simp [gb, List.getD_eq_getElem?_getD, List.getElem?_drop, Nat.add_comm]] at hsn
      have HS := hid hsn; clear hsn
      generalize gb xs (1 + i) = g at *
      generalize be ((xs.drop 1).take i) = q at *
      have hor := or_256 q g (by omega) (by omega) (by omega) (by omega)
      have HOR := hid hor; clear hor
      go_wp2
      go_round
      case rel => exact ⟨i + 1, by omega, by go_num, by rw [HOR.out, ← HS.out]⟩
      case measure => simp [intOf]; omega
    · have hik : i = k0.toNat := by omega
      have HIK := hid hik; clear hik
      generalize hbe : be ((xs.drop 1).take i) = q at *
      have HQ := hid hbe; clear hbe
      go_wp2
      rw [Exit.jump_ret]
      go_ret3
      rw [F.out, ← HIK.out, HQ.out]
      have := HIK.out
      exact ⟨ret3_int rfl (by show 1 + k0 = ((i + 1 : Nat) : Int); omega) rfl, rfl⟩
end Go.Proofs.Ytcociocgoiofgaa
