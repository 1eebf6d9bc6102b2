/- Rows of stamps. -/
import Derived.Test.YtnakanophilfhaaDoorSpB
import Derived.Test.YtnakanophilfhaaDoorAp
namespace Go.Proofs.YtnakanophilfhaaDoor
open Go.RowKit Go.Dio
set_option linter.unusedVariables false
set_option linter.unusedSimpArgs false


theorem SAt.grownR {w w' : World} {b : Nat} {row : Option Nat} {t r : Int} (h : SAt w b t r) (hb : w.grownBy w' row) (hn : ∀ k, row = some k → k ≠ b) : SAt w' b t r := ⟨by rw [hb.block b h.lt (fun e => hn b e.symm rfl)]; exact h.own⟩
/-- Stamps' cells, one behind the other. -/
def sv : List (Int × Int) → List Value
  | [] => []
  | p :: l => .int .i64 p.1 :: .int .i64 p.2 :: sv l
theorem sv_length : ∀ l : List (Int × Int), (sv l).length = l.length * 2
  | [] => rfl
  | p :: l => by simp only [sv, List.length_cons, sv_length l]; omega
theorem sv_get : ∀ (l : List (Int × Int)) (i : Nat) (p : Int × Int), l[i]? = some p → (sv l)[i * 2]? = some (.int .i64 p.1) ∧ (sv l)[i * 2 + 1]? = some (.int .i64 p.2)
  | [], i, p, h => by simp at h
  | q :: l, 0, p, h => by simp at h; subst h; exact ⟨rfl, rfl⟩
  | q :: l, i + 1, p, h => by
    have := sv_get l i p (by simpa using h)
    rw [show (i + 1) * 2 = i * 2 + 1 + 1 by omega]
    exact ⟨this.1, this.2⟩
theorem sv_one (l : List (Int × Int)) : ∀ u ∈ sv l, u.oneCell' = true := by
  induction l with
  | nil => intro u h; cases h
  | cons p l ih =>
    intro u h
    rcases List.mem_cons.1 h with rfl | h
    · rfl
    · rcases List.mem_cons.1 h with rfl | h
      · rfl
      · exact ih u h
theorem sv_inv : ∀ (l : List (Int × Int)) (j : Nat) (u : Value), (sv l)[j]? = some u → ∃ i p, l[i]? = some p ∧ (j = i * 2 ∧ u = .int .i64 p.1 ∨ j = i * 2 + 1 ∧ u = .int .i64 p.2)
  | [], j, u, h => by simp [sv] at h
  | p :: l, 0, u, h => by
    have : u = .int .i64 p.1 := by simpa [sv] using h.symm
    exact ⟨0, p, rfl, .inl ⟨rfl, this⟩⟩
  | p :: l, 1, u, h => by
    have : u = .int .i64 p.2 := by simpa [sv] using h.symm
    exact ⟨0, p, rfl, .inr ⟨rfl, this⟩⟩
  | p :: l, j + 2, u, h => by
    obtain ⟨i, q, h1, h2⟩ := sv_inv l j u (by simpa [sv] using h)
    refine ⟨i + 1, q, by simpa using h1, ?_⟩
    rcases h2 with h2 | h2
    · exact .inl ⟨by omega, h2.2⟩
    · exact .inr ⟨by omega, h2.2⟩
/-- Stamps that lie in a slice. -/
structure IsSt (w : World) (A : Option Addr) (n c : Nat) (l : List (Int × Int)) : Prop where
  len : l.length = n
  cap : n ≤ c
  max : c ≤ 9223372036854775807
  cells : CellsAt w A (sv l)
theorem IsSt.below {w w' : World} {A : Option Addr} {n c : Nat} {l : List (Int × Int)} (h : IsSt w A n c l) (hb : Below w.heap.size w w') : IsSt w' A n c l := ⟨h.len, h.cap, h.max, h.cells.below hb⟩
/-- .. place by place. -/
theorem IsSt.at_ {w : World} {A : Option Addr} {n c : Nat} {l : List (Int × Int)} (h : IsSt w A n c l) (hn : 0 < n) :
    ∃ b o, A = some ⟨b, o, none⟩ ∧ ∀ i, i < n → w.cell? ⟨b, o + i * 2, none⟩ = some (.int .i64 (l.getD i (0, 0)).1) ∧ w.cell? ⟨b, o + i * 2 + 1, none⟩ = some (.int .i64 (l.getD i (0, 0)).2) := by
  have hl := h.len
  obtain ⟨b, o, e, hc⟩ := h.cells.get (by rw [sv_length]; omega)
  refine ⟨b, o, e, fun i hi => ?_⟩
  have hx : l[i]? = some (l.getD i (0, 0)) := by rw [List.getD_eq_getElem?_getD, List.getElem?_eq_getElem (by omega)]; rfl
  obtain ⟨h1, h2⟩ := sv_get l i _ hx
  exact ⟨hc _ _ h1, hc _ _ h2⟩
theorem info_st : (Tryd.prog.info? 23).map (fun i => (i.zero, i.size, i.bytes)) = some (some (.agg #[.int .i64 0, .int .i64 0]), 2, 16) := by kernel_rfl

theorem st_lit (w : World) (base : Nat) (hb : base ≤ w.heap.size) : (w.alloc (.cells #[] 23)).ownsRow base 23 2 (.slice (some ⟨w.heap.size, 0, none⟩) 0 0) 0 [] := by
  have h := World.ownsRow_lit (base := base) (e := 23) (size := 2) w #[] 0 hb (by simp [maxLen]) (by simp)
  simpa using h


theorem SAt.set {w : World} {b : Nat} {t r : Int} (h : SAt w b t r) (t' r' : Int) : SAt ((w.setCell ⟨b, 0, none⟩ (.int .i64 t')).setCell ⟨b, 1, none⟩ (.int .i64 r')) b t' r' := ⟨by simp [World.setCell, Array.getElem?_modify, h.own]⟩
theorem SAt.off {w : World} {b : Nat} {t r : Int} (h : SAt w b t r) (b' i : Nat) (u : Value) (hne : b ≠ b') : SAt (w.setCell ⟨b', i, none⟩ u) b t r := ⟨by rw [Below.heap_setCell w ⟨b', i, none⟩ u b hne]; exact h.own⟩

end Go.Proofs.YtnakanophilfhaaDoor
