/- A reader of bytes, in plain lists: what is left, and the first error. -/
import Derived.Test.YtnakanophilfhaaDoorPure3
set_option linter.unusedVariables false
set_option linter.unusedSimpArgs false
namespace Go.Dio

/-- What is not passed, and an error. -/
abbrev Rst := List UInt8 × Int
def rUpto (most : Int) (s : Rst) : Int × Rst :=
  if s.2 ≠ 0 then (0, s)
  else if (numL s.1).2.2 ≠ 0 then (0, (s.1, ((numL s.1).2.2 : Int)))
  else if most < ((numL s.1).1 : Int) then (0, (s.1, 30))
  else (((numL s.1).1 : Int), (s.1.drop (numL s.1).2.1, 0))
def rText (s : Rst) : List UInt8 × Rst :=
  if s.2 ≠ 0 then ([], s)
  else if (numL s.1).2.2 ≠ 0 then ([], (s.1, ((numL s.1).2.2 : Int)))
  else if 1048576 < (numL s.1).1 then ([], (s.1, 21))
  else if s.1.length - (numL s.1).2.1 < (numL s.1).1 then ([], (s.1, 20))
  else ((s.1.drop (numL s.1).2.1).take (numL s.1).1, (s.1.drop ((numL s.1).2.1 + (numL s.1).1), 0))
def rDone (s : Rst) : Int := if s.2 = 0 ∧ 0 < s.1.length then 21 else s.2

theorem rUpto_cases (most : Int) (xs : List UInt8) (n k e : Nat) (h : numL xs = (n, k, e)) :
    (e ≠ 0 → rUpto most (xs, 0) = (0, (xs, (e : Int)))) ∧ (e = 0 → most < n → rUpto most (xs, 0) = (0, (xs, 30))) ∧ (e = 0 → (n : Int) ≤ most → rUpto most (xs, 0) = ((n : Int), (xs.drop k, 0))) := by
  unfold rUpto
  simp only [h]
  refine ⟨fun h1 => ?_, fun h1 h2 => ?_, fun h1 h2 => ?_⟩
  · rw [if_neg (by simp), if_pos h1]
  · rw [if_neg (by simp), if_neg (by simp [h1]), if_pos h2]
  · rw [if_neg (by simp), if_neg (by simp [h1]), if_neg (by omega)]
theorem rText_cases (xs : List UInt8) (n k e : Nat) (h : numL xs = (n, k, e)) :
    (e ≠ 0 → rText (xs, 0) = ([], (xs, (e : Int)))) ∧ (e = 0 → 1048576 < n → rText (xs, 0) = ([], (xs, 21))) ∧ (e = 0 → n ≤ 1048576 → xs.length - k < n → rText (xs, 0) = ([], (xs, 20))) ∧
      (e = 0 → n ≤ 1048576 → n ≤ xs.length - k → rText (xs, 0) = ((xs.drop k).take n, (xs.drop (k + n), 0))) := by
  unfold rText
  simp only [h]
  refine ⟨fun h1 => ?_, fun h1 h2 => ?_, fun h1 h2 h3 => ?_, fun h1 h2 h3 => ?_⟩
  · rw [if_neg (by simp), if_pos h1]
  · rw [if_neg (by simp), if_neg (by simp [h1]), if_pos h2]
  · rw [if_neg (by simp), if_neg (by simp [h1]), if_neg (by omega), if_pos h3]
  · rw [if_neg (by simp), if_neg (by simp [h1]), if_neg (by omega), if_neg (by omega)]
theorem rUpto_err (most : Int) (s : Rst) (h : s.2 ≠ 0) : rUpto most s = (0, s) := by unfold rUpto; rw [if_pos h]
theorem rText_err (s : Rst) (h : s.2 ≠ 0) : rText s = ([], s) := by unfold rText; rw [if_pos h]
theorem rUpto_numB (n : Nat) (most : Int) (t : List UInt8) (h : n < 281474976710656) (hm : (n : Int) ≤ most) : rUpto most (numB n ++ t, 0) = ((n : Int), (t, 0)) := by
  rw [(rUpto_cases most _ _ _ _ (numL_numB n h t)).2.2 rfl hm, List.drop_left]
theorem rText_textB (s t : List UInt8) (h : s.length ≤ 1048576) : rText (textB s ++ t, 0) = (s, (t, 0)) := by
  have e : textB s ++ t = numB s.length ++ (s ++ t) := by simp [textB]
  rw [e, (rText_cases _ _ _ _ (numL_numB s.length (by omega) (s ++ t))).2.2.2 rfl h (by simp)]
  rw [← List.drop_drop, List.drop_left, List.take_left, List.drop_left]
theorem rUpto_len (most : Int) (s : Rst) : (rUpto most s).2.1.length ≤ s.1.length := by
  unfold rUpto
  split
  · exact Nat.le_refl _
  split
  · exact Nat.le_refl _
  split
  · exact Nat.le_refl _
  · simp
theorem rText_len (s : Rst) : (rText s).2.1.length ≤ s.1.length := by
  unfold rText
  split
  · exact Nat.le_refl _
  split
  · exact Nat.le_refl _
  split
  · exact Nat.le_refl _
  split
  · exact Nat.le_refl _
  · simp
end Go.Dio
