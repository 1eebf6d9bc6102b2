/- Values in memory, for the layer of ops. -/
import Derived.Test.YtnakanophilfhaaDoorVaA
namespace Go.Proofs.YtnakanophilfhaaDoor
open Go.RowKit Go.Dio
set_option linter.unusedVariables false
set_option linter.unusedSimpArgs false


/-- A value lies in block b. -/
structure VAt (w : World) (b : Nat) (k n : Int) (s : ByteArray) : Prop where
  own : w.heap[b]? = some (vo k n s)
theorem VAt.lt {w : World} {b : Nat} {k n : Int} {s : ByteArray} (h : VAt w b k n s) : b < w.heap.size := (Array.getElem?_eq_some_iff.1 h.own).1
theorem VAt.below {w w' : World} {b : Nat} {k n : Int} {s : ByteArray} (h : VAt w b k n s) (hb : Below w.heap.size w w') : VAt w' b k n s := ⟨by rw [hb.block b h.lt]; exact h.own⟩
theorem VAt.c0 {w : World} {b : Nat} {k n : Int} {s : ByteArray} (h : VAt w b k n s) : w.cell? ⟨b, 0, none⟩ = some (.int .i64 k) := cell_of h.own 0 rfl
theorem VAt.c1 {w : World} {b : Nat} {k n : Int} {s : ByteArray} (h : VAt w b k n s) : w.cell? ⟨b, 1, none⟩ = some (.int .i64 n) := cell_of h.own 1 rfl
theorem VAt.c2 {w : World} {b : Nat} {k n : Int} {s : ByteArray} (h : VAt w b k n s) : w.cell? ⟨b, 2, none⟩ = some (.string s) := cell_of h.own 2 rfl
theorem VAt.fz {w : World} {b : Nat} {k n : Int} {s : ByteArray} (h : VAt w b k n s) (i : Nat) : w.frozen? ⟨b, i, none⟩ = false := by simp [World.frozen?, h.own]
theorem VAt.new (w : World) (k n : Int) (s : ByteArray) (b : Nat) (hb : w.heap.size = b) : VAt (w.alloc (vo k n s)) b k n s := by subst hb; exact ⟨new_at _ _⟩

theorem vright_num {k n : Int} {s : ByteArray} (h : vright k n s = true) (hk : k = 1 ∨ k = 2) : -1099511627776 ≤ n ∧ n ≤ 1099511627776 := by
  unfold vright at h
  rcases hk with rfl | rfl <;> simp at h <;> omega
end Go.Proofs.YtnakanophilfhaaDoor
