/- Slices of numbers and of texts that are read. -/
import Derived.Test.YtcociocgoiofgaaK4
set_option linter.unusedVariables false
set_option linter.unusedSimpArgs false
namespace Go.Dio
open Go.RowKit Go.ChangeShapes Go.WideShapes Go.ChangeAt
theorem IsI.some {k : IntKind} {w : World} {A : Option Addr} {n c : Nat} {xs : List Int} (h : IsI k w A n c xs) (hn : 0 < n) :
    ∃ b o, A = some ⟨b, o, none⟩ ∧ ∀ i, i < n → w.cell? ⟨b, o + i, none⟩ = some (.int k (xs.getD i 0)) := by
  have hl := h.len
  obtain ⟨b, o, rfl, hc⟩ := h.cells.get (by rw [List.length_map]; omega)
  exact ⟨b, o, rfl, fun i hi => hc i _ (by rw [List.getElem?_map, List.getElem?_eq_getElem (by omega), List.getD_eq_getElem?_getD, List.getElem?_eq_getElem (by omega)]; rfl)⟩
theorem IsI.below {k : IntKind} {w w' : World} {A : Option Addr} {n c : Nat} {xs : List Int} (h : IsI k w A n c xs) (hb : Below w.heap.size w w') : IsI k w' A n c xs := ⟨h.len, h.cap, h.max, h.cells.below hb, h.wf⟩
theorem IsI.bd {w : World} {A : Option Addr} {n c : Nat} {xs : List Int} (h : IsI .i64 w A n c xs) (i : Nat) : -9223372036854775808 ≤ xs.getD i 0 ∧ xs.getD i 0 ≤ 9223372036854775807 := by
  by_cases hi : i < xs.length
  · rw [List.getD_eq_getElem?_getD, List.getElem?_eq_getElem hi]
    simpa [Lit.wf, IntKind.min, IntKind.max, IntKind.signed, IntKind.bits] using h.wf xs[i] (List.getElem_mem hi)
  · rw [List.getD_eq_getElem?_getD, List.getElem?_eq_none (by omega)]; simp
/-- Texts that a slice reads as. -/
structure IsS (w : World) (A : Option Addr) (n c : Nat) (ss : List ByteArray) : Prop where
  len : ss.length = n
  cap : n ≤ c
  max : c ≤ 9223372036854775807
  cells : CellsAt w A (ss.map Value.string)
  sz : ∀ s ∈ ss, s.size ≤ 9223372036854775807
theorem IsS.some {w : World} {A : Option Addr} {n c : Nat} {xs : List ByteArray} (h : IsS w A n c xs) (hn : 0 < n) :
    ∃ b o, A = some ⟨b, o, none⟩ ∧ ∀ i, i < n → w.cell? ⟨b, o + i, none⟩ = some (.string (xs.getD i ByteArray.empty)) := by
  have hl := h.len
  obtain ⟨b, o, rfl, hc⟩ := h.cells.get (by rw [List.length_map]; omega)
  exact ⟨b, o, rfl, fun i hi => hc i _ (by rw [List.getElem?_map, List.getElem?_eq_getElem (by omega), List.getD_eq_getElem?_getD, List.getElem?_eq_getElem (by omega)]; rfl)⟩
theorem IsS.below {w w' : World} {A : Option Addr} {n c : Nat} {xs : List ByteArray} (h : IsS w A n c xs) (hb : Below w.heap.size w w') : IsS w' A n c xs := ⟨h.len, h.cap, h.max, h.cells.below hb, h.sz⟩
theorem IsS.bd {w : World} {A : Option Addr} {n c : Nat} {xs : List ByteArray} (h : IsS w A n c xs) (i : Nat) : (xs.getD i ByteArray.empty).size ≤ 9223372036854775807 := by
  by_cases hi : i < xs.length
  · rw [List.getD_eq_getElem?_getD, List.getElem?_eq_getElem hi]
    exact h.sz xs[i] (List.getElem_mem hi)
  · rw [List.getD_eq_getElem?_getD, List.getElem?_eq_none (by omega)]; simp
end Go.Dio
