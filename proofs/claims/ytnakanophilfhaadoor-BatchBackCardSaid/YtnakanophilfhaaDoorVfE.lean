/- Right8. -/
import Derived.Test.YtnakanophilfhaaDoorVbA
import Derived.Test.YtnakanophilfhaaDoorPureO
namespace Go.Proofs.YtnakanophilfhaaDoor
open Go.RowKit Go.Dio
set_option linter.unusedVariables false
set_option linter.unusedSimpArgs false

theorem prop_cases (p : Int) : p = 1 ∨ p = 2 ∨ p = 3 ∨ p = 4 ∨ p = 5 ∨ p = 6 ∨ p = 7 ∨ p = 8 ∨ ((p == 1) = false ∧ (p == 2) = false ∧ (p == 3) = false ∧ (p == 4) = false ∧ (p == 5) = false ∧ (p == 6) = false ∧ (p == 7) = false ∧ (p == 8) = false) := by
  simp only [beq_eq_false_iff_ne]; omega
theorem vright8_out {p k n : Int} {s : ByteArray} (h : (p == 1) = false ∧ (p == 2) = false ∧ (p == 3) = false ∧ (p == 4) = false ∧ (p == 5) = false ∧ (p == 6) = false ∧ (p == 7) = false ∧ (p == 8) = false) : vright8 p k n s = false := by
  simp only [beq_eq_false_iff_ne] at h
  have : kind8 p = -1 := by unfold kind8; rw [if_neg (by omega), if_neg (by omega), if_neg (by omega), if_neg (by omega)]
  simp [vright8, this]

theorem k_or (k c : Int) (h : ¬ k = 0) : (k == 0 || k == c) = decide (k = c) := by rw [Bool.eq_iff_iff]; simp [h]

set_option maxRecDepth 100000 in
set_option maxHeartbeats 4000000 in
theorem VRight8_any (p k n : Int) (s : ByteArray) (w : World) (hs : s.size ≤ 9223372036854775807) :
    Calls Tryd.prog 80 #[.int .i64 p, vv k n s] w fun e w' => e = .returned (.bool (vright8 p k n s)) ∧ Below w.heap.size w w' := by
  have V0 := hid (VAt.new w k n s _ rfl)
  rcases prop_cases p with rfl | rfl | rfl | rfl | rfl | rfl | rfl | rfl | hp
  case inr.inr.inr.inr.inr.inr.inr.inr =>
    have F := hid (vright8_out (k := k) (n := n) (s := s) hp)
    obtain ⟨p1, p2, p3, p4, p5, p6, p7, p8⟩ := hp
    go_enter Tryd.func80, Tryd.ntmps80
    go_wp2_with fail
    go_ret
    rw [F.out]
    exact ⟨rfl, below_alloc1 _ _⟩
  all_goals
    go_enter Tryd.func80, Tryd.ntmps80
    go_wp2_with fail
    refine (VRight_any k n s _ hs).mono ?_
    rcases hv : vright k n s with _ | _
    all_goals
      have HV := hid hv
      rintro e w1 ⟨rfl, hb⟩
      have H1 := hid (below_then (below_alloc1 _ _) hb)
      have V1 := hid (V0.out.below hb)
      clear hb hv
      have a0 := V1.out.c0
      go_wp2_with fail
      all_goals
        go_ret
        refine ⟨?_, H1.out⟩
        first
        | (simp [vright8, kind8, HV.out]; done)
        | (simp [vright8, kind8, HV.out, *]; done)
        | (simp [vright8, kind8, HV.out]; rfl)
        | (simp [vright8, kind8, HV.out, *]; exact k_or _ _ (by assumption))
        | (simp [vright8, kind8, HV.out]; omega)
        | (simp only [beq_eq_false_iff_ne] at *; simp [vright8, kind8, HV.out, *]; done)

end Go.Proofs.YtnakanophilfhaaDoor
