/- More words for the statements' walks. -/
import Derived.Test.YtnakanophilfhaaDoorK2
set_option linter.unusedVariables false
set_option linter.unusedSimpArgs false
namespace Go.Dio
open Go.RowKit
theorem OwnB.below {e : TypeId} {w w1 : World} {b : Nat} {v : Value} {xs : List UInt8} (h : OwnB e w b v xs) (hb : Below w.heap.size w w1) : OwnB e w1 b v xs := owns_below h hb
theorem owns_move {w w1 : World} {base n : Nat} {e : TypeId} {size : Nat} {v : Value} {cs : List Value} (h : w.ownsRow base e size v n cs) (hm : ∀ k, v.ownBlock = some k → w1.heap[k]? = w.heap[k]?) : w1.ownsRow base e size v n cs := by
  refine ⟨h.1, ?_⟩
  rcases h.2 with h2 | ⟨g, cap, cur, rfl, h3, h4, h5⟩
  · exact .inl h2
  · exact .inr ⟨g, cap, cur, rfl, h3, by rw [hm g rfl]; exact h4, h5⟩
theorem OwnB.keep {e : TypeId} {w w1 : World} {b g n c B : Nat} {xs : List UInt8} (h : OwnB e w b (.slice (some ⟨g, 0, none⟩) n c) xs) (hb : Below B w w1) (hg : g < B) : OwnB e w1 b (.slice (some ⟨g, 0, none⟩) n c) xs :=
  owns_move h fun k hk => by cases hk; exact hb.block g hg
end Go.Dio
