/- wire's and the document's Num, Text, Frame at whatever comes in. -/
import Derived.Test.YtcociocgoiofgaaRef2
import Derived.Test.YtcociocgoiofgaaK3
namespace Go.Proofs.Ytcociocgoiofgaa
open Go.RowKit Go.Dio
set_option linter.unusedVariables false
set_option linter.unusedSimpArgs false

def pnum (n : Int) : List UInt8 × Int := if 0 ≤ n ∧ n ≤ 281474976710655 then (numB n.toNat, 0) else ([], 30)
def ptext (s : ByteArray) : List UInt8 × Int := if s.size ≤ 1048576 then (textB s.data.toList, 0) else ([], 6)
theorem pnum_or (n : Int) : ((pnum n).2 = 0 ∧ 0 < (pnum n).1.length) ∨ ((pnum n).2 = 30 ∧ (pnum n).1 = []) := by
  unfold pnum
  split
  · exact .inl ⟨rfl, numB_pos _⟩
  · exact .inr ⟨rfl, rfl⟩
theorem ptext_or (s : ByteArray) : ((ptext s).2 = 0 ∧ 0 < (ptext s).1.length) ∨ ((ptext s).2 = 6 ∧ (ptext s).1 = []) := by
  unfold ptext
  split
  · exact .inl ⟨rfl, by simp [textB, numB]⟩
  · exact .inr ⟨rfl, rfl⟩

theorem Num_all (n : Int) (w : World) : Calls Try.prog 37 #[.int .i64 n] w (OutB2 5 w (pnum n).1 (pnum n).2) := by
  by_cases h : 0 ≤ n ∧ n ≤ 281474976710655
  · obtain ⟨k, rfl⟩ := Int.eq_ofNat_of_zero_le h.1
    rw [pnum, if_pos h, Int.toNat_natCast]
    exact Num_ok k w (by omega)
  · rw [pnum, if_neg h]
    exact (Num_no n w (by omega)).mono fun e w' ⟨h1, h2⟩ => by subst h2; exact ⟨_, h1, OwnB.nil _ _ _, Below.refl _ _⟩
theorem rNum_all (n : Int) (w : World) : Calls Try.prog 39 #[.int .i64 n] w (OutB 5 w (pnum n).1) := by
  by_cases h : 0 ≤ n ∧ n ≤ 281474976710655
  · obtain ⟨k, rfl⟩ := Int.eq_ofNat_of_zero_le h.1
    rw [pnum, if_pos h, Int.toNat_natCast]
    exact rNum_ok k w (by omega)
  · rw [pnum, if_neg h]
    exact (rNum_no n w (by omega)).mono fun e w' ⟨h1, h2⟩ => by subst h2; exact ⟨_, h1, OwnB.nil _ _ _, Below.refl _ _⟩
theorem Text_all (s : ByteArray) (w : World) : Calls Try.prog 38 #[.string s] w (OutB2 5 w (ptext s).1 (ptext s).2) := by
  by_cases h : s.size ≤ 1048576
  · rw [ptext, if_pos h]
    exact Text_ok s w h
  · rw [ptext, if_neg h]
    exact (Text_no s w (by omega)).mono fun e w' ⟨h1, h2⟩ => by subst h2; exact ⟨_, h1, OwnB.nil _ _ _, Below.refl _ _⟩
theorem rText_all (s : ByteArray) (w : World) : Calls Try.prog 40 #[.string s] w (OutB 5 w (ptext s).1) := by
  by_cases h : s.size ≤ 1048576
  · rw [ptext, if_pos h]
    exact rText_ok s w h
  · rw [ptext, if_neg h]
    exact (rText_no s w (by omega)).mono fun e w' ⟨h1, h2⟩ => by subst h2; exact ⟨_, h1, OwnB.nil _ _ _, Below.refl _ _⟩
end Go.Proofs.Ytcociocgoiofgaa
