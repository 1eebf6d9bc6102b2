/- Layer 3: Parse at any text: what is parsed. -/
import Derived.Test.YtdbghnfmhgjkaaaDoorVcA
namespace Go.Proofs.YtdbghnfmhgjkaaaDoor
open Go.RowKit Go.Dio
set_option linter.unusedVariables false
set_option linter.unusedSimpArgs false

/-- What a text may be. -/
def pv0 (l : List UInt8) : Int × Int × ByteArray :=
  if l = [110, 111, 110, 101] then (0, 0, ⟨#[]⟩) else if l = [121, 101, 115] then (4, 1, ⟨#[]⟩) else if l = [110, 111] then (4, 0, ⟨#[]⟩)
  else if 2 ≤ l.length ∧ l.head? = some 34 then (3, 0, mkS ((l.drop 1).take (l.length - 2)))
  else match Lib.atoiAll (Lib.trimSuffix l [102]) with
    | .ok n => if Lib.hasSuffix l [102] = true then (2, n, ⟨#[]⟩) else (1, n, ⟨#[]⟩)
    | _ => (0, 0, ⟨#[]⟩)
def pParse (l : List UInt8) : (Int × Int × ByteArray) × Bool :=
  if l = [] ∨ prV (pv0 l).1 (pv0 l).2.1 (pv0 l).2.2 ≠ l then ((0, 0, ⟨#[]⟩), false) else (pv0 l, true)
theorem pParse_nil {l : List UInt8} (h : l = []) : pParse l = ((0, 0, ⟨#[]⟩), false) := if_pos (.inl h)
theorem pParse_no {l : List UInt8} {k n : Int} {t : ByteArray} (h : pv0 l = (k, n, t)) (hp : prV k n t ≠ l) : pParse l = ((0, 0, ⟨#[]⟩), false) := by
  unfold pParse; rw [h]; exact if_pos (.inr hp)
theorem pParse_ok {l : List UInt8} {k n : Int} {t : ByteArray} (h0 : l ≠ []) (h : pv0 l = (k, n, t)) (hp : prV k n t = l) : pParse l = ((k, n, t), true) := by
  unfold pParse; rw [h]; exact if_neg (by rintro (h | h); exact h0 h; exact h hp)
theorem trim_len (l p : List UInt8) : (Lib.trimSuffix l p).length ≤ l.length := by
  unfold Lib.trimSuffix
  split
  · simp
  · exact Nat.le_refl _
theorem pv0_no {l : List UInt8} (h1 : (l == [110, 111, 110, 101]) = false) (h2 : (l == [121, 101, 115]) = false) (h3 : (l == [110, 111]) = false) (h4 : ¬ (2 ≤ l.length ∧ l.head? = some 34)) :
    pv0 l = match Lib.atoiAll (Lib.trimSuffix l [102]) with
      | .ok n => if Lib.hasSuffix l [102] = true then (2, n, ⟨#[]⟩) else (1, n, ⟨#[]⟩)
      | _ => (0, 0, ⟨#[]⟩) := by
  simp only [beq_eq_false_iff_ne] at h1 h2 h3
  unfold pv0
  rw [if_neg h1, if_neg h2, if_neg h3, if_neg h4]
theorem pv0_text {l : List UInt8} (h1 : (l == [110, 111, 110, 101]) = false) (h2 : (l == [121, 101, 115]) = false) (h3 : (l == [110, 111]) = false) (h4 : 2 ≤ l.length ∧ l.head? = some 34) :
    pv0 l = (3, 0, mkS ((l.drop 1).take (l.length - 2))) := by
  simp only [beq_eq_false_iff_ne] at h1 h2 h3
  unfold pv0
  rw [if_neg h1, if_neg h2, if_neg h3, if_pos h4]
theorem mkS_ne {x : List UInt8} {s : ByteArray} (h : x ≠ s.toList) : ((mkS x).toList == s.toList) = false := by
  rw [toList_eq (mkS x), mkS_toList]
  simpa using h
theorem mkS_is {x : List UInt8} {s : ByteArray} (h : x = s.toList) : mkS x = s := by
  rw [h, toList_eq]; exact mkS_data s
theorem head34 (s : ByteArray) (h : 0 < s.size) : (s.toList.head? = some 34) ↔ s[0].toNat = 34 := by
  have e : s.toList.head? = some s[0] := by
    rw [toList_eq, List.head?_eq_getElem?, Array.getElem?_toList, Array.getElem?_eq_getElem (show 0 < s.data.size from h)]
    rfl
  rw [e]
  simp only [Option.some.injEq]
  constructor
  · intro h; rw [h]; rfl
  · intro h; exact UInt8.toNat_inj.1 h

theorem VAt.set0 {w : World} {b : Nat} {k n : Int} {s : ByteArray} (h : VAt w b k n s) (m : Int) : VAt (w.setCell ⟨b, 0, none⟩ (.int .i64 m)) b m n s := ⟨by simp [World.setCell, Array.getElem?_modify, h.own]⟩
theorem VAt.set3 {w : World} {b : Nat} {k n : Int} {s : ByteArray} (h : VAt w b k n s) (k' n' : Int) (s' : ByteArray) : VAt (((w.setCell ⟨b, 0, none⟩ (.int .i64 k')).setCell ⟨b, 1, none⟩ (.int .i64 n')).setCell ⟨b, 2, none⟩ (.string s')) b k' n' s' := ((h.set0 k').set1 n').set2 s'
end Go.Proofs.YtdbghnfmhgjkaaaDoor
