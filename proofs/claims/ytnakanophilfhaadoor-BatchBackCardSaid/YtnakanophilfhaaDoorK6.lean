/- Slices of numbers and of texts that are read. -/
import Derived.Test.YtnakanophilfhaaDoorK4
set_option linter.unusedVariables false
set_option linter.unusedSimpArgs false
namespace Go.Dio
open Go.RowKit Go.ChangeShapes Go.WideShapes Go.ChangeAt
theorem IsI.some {k : IntKind} {w : World} {A : Option Addr} {n c : Nat} {xs : List Int} (h : IsI k w A n c xs) (hn : 0 < n) :
    ∃ b o, A = some ⟨b, o, none⟩ ∧ ∀ i, i < n → w.cell? ⟨b, o + i, none⟩ = some (.int k (xs.getD i 0)) := by
  have hl := h.len
  obtain ⟨b, o, rfl, hc⟩ := h.cells.get (by rw [List.length_map]; omega)
  exact ⟨b, o, rfl, fun i hi => hc i _ (by rw [List.getElem?_map, List.getElem?_eq_getElem (by omega), List.getD_eq_getElem?_getD, List.getElem?_eq_getElem (by omega)]; rfl)⟩
theorem IsI.below {k : IntKind} {w w' : World} {A : Option Addr} {n c : Nat} {xs : List Int} (h : IsI k w A n c xs) (hb : Below w.heap.size w w') : IsI k w' A n c xs := ⟨h.len, h.cap, h.max, h.cells.below hb, h.wf⟩
theorem IsI.bd {w : World} {A : Option Addr} {n c : Nat} {xs : List Int} (h : IsI .i64 w A n c xs) (i : Nat) : -9223372036854775808 ≤ xs.getD i 0 ∧ xs.getD i 0 ≤ 9223372036854775807 := by
  by_cases hi : i < xs.length
  · rw [List.getD_eq_getElem?_getD, List.getElem?_eq_getElem hi]
    simpa [Lit.wf, IntKind.min, IntKind.max, IntKind.signed, IntKind.bits] using h.wf xs[i] (List.getElem_mem hi)
  · rw [List.getD_eq_getElem?_getD, List.getElem?_eq_none (by omega)]; simp
/-- Texts that a slice reads as. -/
structure IsS (w : World) (A : Option Addr) (n c : Nat) (ss : List ByteArray) : Prop where
  len : ss.length = n
  cap : n ≤ c
  max : c ≤ 9223372036854775807
  cells : CellsAt w A (ss.map Value.string)
  sz : ∀ s ∈ ss, s.size ≤ 9223372036854775807
theorem IsS.some {w : World} {A : Option Addr} {n c : Nat} {xs : List ByteArray} (h : IsS w A n c xs) (hn : 0 < n) :
    ∃ b o, A = some ⟨b, o, none⟩ ∧ ∀ i, i < n → w.cell? ⟨b, o + i, none⟩ = some (.string (xs.getD i ByteArray.empty)) := by
  have hl := h.len
  obtain ⟨b, o, rfl, hc⟩ := h.cells.get (by rw [List.length_map]; omega)
  exact ⟨b, o, rfl, fun i hi => hc i _ (by rw [List.getElem?_map, List.getElem?_eq_getElem (by omega), List.getD_eq_getElem?_getD, List.getElem?_eq_getElem (by omega)]; rfl)⟩
theorem IsS.below {w w' : World} {A : Option Addr} {n c : Nat} {xs : List ByteArray} (h : IsS w A n c xs) (hb : Below w.heap.size w w') : IsS w' A n c xs := ⟨h.len, h.cap, h.max, h.cells.below hb, h.sz⟩
theorem IsS.bd {w : World} {A : Option Addr} {n c : Nat} {xs : List ByteArray} (h : IsS w A n c xs) (i : Nat) : (xs.getD i ByteArray.empty).size ≤ 9223372036854775807 := by
  by_cases hi : i < xs.length
  · rw [List.getD_eq_getElem?_getD, List.getElem?_eq_getElem hi]
    exact h.sz xs[i] (List.getElem_mem hi)
  · rw [List.getD_eq_getElem?_getD, List.getElem?_eq_none (by omega)]; simp
theorem grown_alloc {w w1 : World} {row : Option Nat} (h : w.grownBy w1 row) (o : Obj) : w.grownBy (w1.alloc o) row :=
  ⟨h.os, h.tape, h.output, Nat.le_trans h.size (below_alloc1 w1 o).size, fun k hk hr => ((below_alloc1 w1 o).block k (Nat.lt_of_lt_of_le hk h.size)).trans (h.block k hk hr)⟩
theorem grown_put {w w1 : World} {row : Option Nat} (h : w.grownBy w1 row) (b i : Nat) (u : Value) (hb : w.heap.size ≤ b ∨ row = some b) : w.grownBy (w1.setCell ⟨b, i, none⟩ u) row :=
  ⟨h.os, h.tape, h.output, Nat.le_trans h.size (by simp [World.setCell]), fun k hk hr => by
    rw [Below.heap_setCell w1 ⟨b, i, none⟩ u k (fun e => by
      rcases hb with hb | hb
      · simp only at e; omega
      · simp only at e; exact hr (by rw [hb, e]))]
    exact h.block k hk hr⟩
theorem grown_drew {w w1 : World} {row : Option Nat} (h : w.grownBy w1 row) : w.grownBy w1.drew row := ⟨h.os, h.tape, h.output, h.size, h.block⟩
theorem below_put {B : Nat} {w w1 : World} (h : Below B w w1) (b i : Nat) (u : Value) (hb : B ≤ b) : Below B w (w1.setCell ⟨b, i, none⟩ u) :=
  ⟨h.os, h.tape, h.output, Nat.le_trans h.size (by simp [World.setCell]), fun k hk => by
    rw [Below.heap_setCell w1 ⟨b, i, none⟩ u k (fun e => by simp only at e; omega)]
    exact h.block k hk⟩
theorem cells_put {w : World} {g : Nat} {t : TypeId} {cs : Array Value} (h : w.heap[g]? = some (.cells cs t (0, 0))) (i : Nat) (u : Value) : (w.setCell ⟨g, i, none⟩ u).heap[g]? = some (.cells (cs.setIfInBounds i u) t (0, 0)) := by
  simp [World.setCell, Array.getElem?_modify, h]
theorem cell_of {w : World} {g : Nat} {cs : Array Value} {t : TypeId} {fr : Nat × Nat} (h : w.heap[g]? = some (.cells cs t fr)) (i : Nat) {v : Value} (hv : cs[i]? = some v) : w.cell? ⟨g, i, none⟩ = some v := by
  simp [World.cell?, h, hv]
theorem new_at (w : World) (o : Obj) : (w.alloc o).heap[w.heap.size]? = some o := by
  show (w.heap.push _)[w.heap.size]? = _
  simp
theorem below_alloc2 (w : World) (o o' : Obj) : Below w.heap.size w ((w.alloc o).alloc o') :=
  (below_alloc1 w o).trans ((below_alloc1 (w.alloc o) o').mono (below_alloc1 w o).size)
end Go.Dio
