/- wire, in plain lists: a frame is unframed; one byte turned is told. -/
import Derived.Test.YtnakanophilfhaaDoorPure1
set_option linter.unusedVariables false
set_option linter.unusedSimpArgs false
namespace Go.Dio

theorem fourB_len (k : Nat) : (fourB k).length = 4 := rfl
theorem frameB_len (xs : List UInt8) : (frameB xs).length = 1 + (numB xs.length).length + xs.length + 4 := by
  simp [frameB, fourB_len]; omega
theorem unfL_frameB (xs more : List UInt8) (h : xs.length ≤ 1048576) : unfL (frameB xs ++ more) = (xs, (frameB xs).length, 0) := by
  have e : frameB xs ++ more = 93 :: (numB xs.length ++ (xs ++ (fourB (crc xs) ++ more))) := by simp [frameB]
  have hn := numL_numB xs.length (by omega) (xs ++ (fourB (crc xs) ++ more))
  rw [e]
  simp only [unfL, hn]
  have hd : (numB xs.length ++ (xs ++ (fourB (crc xs) ++ more))).drop (numB xs.length).length = xs ++ (fourB (crc xs) ++ more) := List.drop_left
  rw [hd]
  have h1 : (xs ++ (fourB (crc xs) ++ more)).take xs.length = xs := List.take_left
  have h2 : (xs ++ (fourB (crc xs) ++ more)).drop xs.length = fourB (crc xs) ++ more := List.drop_left
  have h3 : (fourB (crc xs) ++ more).take 4 = fourB (crc xs) := List.take_left (l₁ := fourB (crc xs))
  rw [h1, h2, h3]
  rw [if_neg (by simp), if_neg (by simp), if_neg (by omega), if_neg (by simp [fourB_len]), if_neg (by simp), frameB_len]

theorem numB_300 : numB 300 = [2, 1, 44] := by simp [numB, encN_pos, encN_zero]
theorem numB_two : numB 2 = [1, 2] := by simp [numB, encN_pos, encN_zero]
theorem frame_ab_len : (frameB [97, 98]).length = 9 := by rw [frameB_len]; simp [numB_two]
end Go.Dio
