/- Words for the rows: texts that came in as a slice. -/
import Derived.Test.YtnakanophilfhaaDoorK6
import Derived.SliceStrings
set_option linter.unusedVariables false
set_option linter.unusedSimpArgs false
namespace Go.Dio
open Go.RowKit Go.ChangeShapes Go.WideShapes Go.ChangeAt
theorem isS_of_trod {H : Type} {enc : TypeId × Value → H} {P : Program} {W : World} {base : Nat} {spare : Nat → Bool} {held : Bool} {t e : TypeId} {a : Option Addr} {len cap : Nat} {d : DataW H} {ps : List MemPlace}
    (hu : P.underlying t = some (.slice e)) (he : P.underlying e = some .string) (hc : P.cellsOf e = 1) (h : DataW.Trod enc P W base spare held t (.slice a len cap) d ps) : ∃ xs, IsS W a len cap xs := by
  obtain ⟨fuel, hf⟩ := h
  rcases open_strings hu he hc hf with ⟨hcs, _⟩ | ⟨x, l, c, zs, hcs, _, hl, hm, hz, _, hcell, hwz⟩
  · simp [Value.cells] at hcs
    obtain ⟨rfl, rfl, rfl⟩ := hcs
    exact ⟨[], rfl, Nat.le_refl _, by omega, .inl rfl, by simp⟩
  · simp [Value.cells] at hcs
    obtain ⟨rfl, rfl, rfl⟩ := hcs
    have hlz : len ≤ zs.length := by rw [hz]; split <;> omega
    refine ⟨zs.take len, by rw [List.length_take]; omega, hl, by simp only [maxLen] at hm; omega, ?_, fun y hy => by have := hwz y (List.mem_of_mem_take hy); simp only [maxLen] at this; omega⟩
    by_cases h0 : zs = []
    · subst h0; exact .inl (by simp)
    · obtain ⟨b, o, sp⟩ := x
      have hc0 := hcell 0 (List.length_pos_iff.2 h0)
      have hsp : sp = none := by simpa [Addr.add] using World.cell?_spot hc0
      subst hsp
      refine .inr ⟨b, o, rfl, fun i u hu => ?_⟩
      rw [List.getElem?_map, Option.map_eq_some_iff] at hu
      obtain ⟨y, hy, rfl⟩ := hu
      rw [List.getElem?_take] at hy
      split at hy
      · have hlt : i < zs.length := (List.getElem?_eq_some_iff.1 hy).1
        have := hcell i hlt
        rw [Addr.add_lit] at this
        rw [this, List.getD_eq_getElem?_getD, hy]; rfl
      · cases hy
end Go.Dio
