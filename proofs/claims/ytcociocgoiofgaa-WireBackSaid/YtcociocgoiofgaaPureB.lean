/- Rows of numbers and texts as bytes, and back. -/
import Derived.Test.YtcociocgoiofgaaPureR
set_option linter.unusedVariables false
set_option linter.unusedSimpArgs false
namespace Go.Dio
def partN (zs : List Int) (j : Nat) : List UInt8 := if j < zs.length then numB (zs.getD j 0).toNat else []
def partS (ss : List ByteArray) (j : Nat) : List UInt8 := if j < ss.length then textB (ss.getD j ByteArray.empty).data.toList else []
def partB (zs : List Int) (ss : List ByteArray) (j : Nat) : List UInt8 := partN zs j ++ partS ss j
def rowB (zs : List Int) (ss : List ByteArray) (i : Nat) : List UInt8 := (List.range i).flatMap (partB zs ss)
def restB (zs : List Int) (ss : List ByteArray) (N i : Nat) : List UInt8 := ((List.range N).drop i).flatMap (partB zs ss)
theorem rowB_succ (zs : List Int) (ss : List ByteArray) (i : Nat) : rowB zs ss (i + 1) = rowB zs ss i ++ partB zs ss i := by
  simp [rowB, List.range_succ]
theorem restB_zero (zs : List Int) (ss : List ByteArray) (N : Nat) : restB zs ss N 0 = rowB zs ss N := by simp [restB, rowB]
theorem restB_end (zs : List Int) (ss : List ByteArray) (N : Nat) : restB zs ss N N = [] := by rw [restB, List.drop_of_length_le (by simp)]; rfl
theorem restB_step (zs : List Int) (ss : List ByteArray) (N i : Nat) (h : i < N) : restB zs ss N i = partN zs i ++ (partS ss i ++ restB zs ss N (i + 1)) := by
  unfold restB
  rw [List.drop_eq_getElem_cons (by simpa using h), List.flatMap_cons, List.getElem_range, partB, List.append_assoc]
/-- Each number and text may be. -/
def AllOk (zs : List Int) (ss : List ByteArray) (i : Nat) : Prop :=
  (∀ j, j < i → j < zs.length → 0 ≤ zs.getD j 0 ∧ zs.getD j 0 < 281474976710656) ∧ (∀ j, j < i → j < ss.length → (ss.getD j ByteArray.empty).size ≤ 1048576)
theorem AllOk.zero (zs : List Int) (ss : List ByteArray) : AllOk zs ss 0 := ⟨fun j h => absurd h (by omega), fun j h => absurd h (by omega)⟩
theorem AllOk.succ {zs : List Int} {ss : List ByteArray} {i : Nat} (h : AllOk zs ss i) (h1 : i < zs.length → 0 ≤ zs.getD i 0 ∧ zs.getD i 0 < 281474976710656) (h2 : i < ss.length → (ss.getD i ByteArray.empty).size ≤ 1048576) : AllOk zs ss (i + 1) := by
  refine ⟨fun j hj hl => ?_, fun j hj hl => ?_⟩
  · by_cases e : j = i
    · subst e; exact h1 hl
    · exact h.1 j (by omega) hl
  · by_cases e : j = i
    · subst e; exact h2 hl
    · exact h.2 j (by omega) hl
theorem read_num (zs : List Int) (ss : List ByteArray) (N i : Nat) (t : List UInt8) (h : AllOk zs ss N) (hi : i < N) (hl : i < zs.length) :
    rUpto 281474976710655 (partN zs i ++ t, 0) = (zs.getD i 0, (t, 0)) := by
  obtain ⟨h1, h2⟩ := h.1 i hi hl
  rw [partN, if_pos hl, rUpto_numB _ _ _ (by omega) (by omega)]
  rw [Int.toNat_of_nonneg h1]
theorem skip_num (zs : List Int) (i : Nat) (t : List UInt8) (hl : ¬ i < zs.length) : partN zs i ++ t = t := by rw [partN, if_neg hl]; rfl
theorem read_text (zs : List Int) (ss : List ByteArray) (N i : Nat) (t : List UInt8) (h : AllOk zs ss N) (hi : i < N) (hl : i < ss.length) :
    rText (partS ss i ++ t, 0) = ((ss.getD i ByteArray.empty).data.toList, (t, 0)) := by
  have h2 := h.2 i hi hl
  rw [partS, if_pos hl, rText_textB _ _ (by rw [Array.length_toList]; exact h2)]
theorem skip_text (ss : List ByteArray) (i : Nat) (t : List UInt8) (hl : ¬ i < ss.length) : partS ss i ++ t = t := by rw [partS, if_neg hl]; rfl
end Go.Dio
