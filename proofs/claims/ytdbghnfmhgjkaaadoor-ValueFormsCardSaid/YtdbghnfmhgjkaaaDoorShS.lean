/- Stamps and acts, as they come in. -/
import Derived.Test.YtdbghnfmhgjkaaaDoorSh
import Derived.Test.YtdbghnfmhgjkaaaDoorStD
namespace Go.Proofs.YtdbghnfmhgjkaaaDoor
open Go.RowKit Go.Dio
set_option linter.unusedVariables false
set_option linter.unusedSimpArgs false

/-- A stamp's shape. -/
@[reducible] def shStamp : Sh := .pair (.int .i64) (.pair (.int .i64) .unit)
theorem stamp_cells {w : World} {cs : List Value} {x : shStamp.T} (h : shStamp.reads w cs x) : cs = [.int .i64 x.1, .int .i64 x.2.1] ∧ (Lit.int .i64 x.1).wf = true ∧ (Lit.int .i64 x.2.1).wf = true := by
  obtain ⟨c1, c2, h0, ⟨rfl, h1⟩, c3, c4, rfl, ⟨rfl, h2⟩, h3⟩ := h
  have : c4 = [] := h3
  subst this
  exact ⟨h0, h1, h2⟩
theorem stamp_cut {w : World} {a : Array Value} {x : shStamp.T} (h : shStamp.reads w a.toList x) : a = #[.int .i64 x.1, .int .i64 x.2.1] := Array.toList_inj.1 (stamp_cells h).1
/-- An act's shape. -/
@[reducible] def shAct : Sh := .pair (.int .i64) (.pair (.int .i64) (.pair shStamp .unit))
theorem act_cells {w : World} {cs : List Value} {x : shAct.T} (h : shAct.reads w cs x) : cs = [.int .i64 x.1, .int .i64 x.2.1, .int .i64 x.2.2.1.1, .int .i64 x.2.2.1.2.1] ∧ (Lit.int .i64 x.2.1).wf = true := by
  obtain ⟨c1, c2, h0, ⟨rfl, h1⟩, c3, c4, rfl, ⟨rfl, h2⟩, c5, c6, rfl, h3, h4⟩ := h
  have : c6 = [] := h4
  subst this
  have := (stamp_cells h3).1
  subst this
  exact ⟨h0, h2⟩
theorem i64_bd {n : Int} (h : (Lit.int .i64 n).wf = true) : -9223372036854775808 ≤ n ∧ n ≤ 9223372036854775807 := by
  simpa [Lit.wf, IntKind.min, IntKind.max, IntKind.signed, IntKind.bits] using h

/-- Acts that lie in a slice: kind, N, time, replica. -/
structure IsActs (w : World) (A : Option Addr) (n c : Nat) (f : Nat → Int × Int × Int × Int) : Prop where
  cap : n ≤ c
  max : c ≤ 9223372036854775807
  at_ : ∀ i, i < n → ∃ b o, A = some ⟨b, o, none⟩ ∧ w.cell? ⟨b, o + i * 4, none⟩ = some (.int .i64 (f i).1) ∧ w.cell? ⟨b, o + i * 4 + 1, none⟩ = some (.int .i64 (f i).2.1) ∧ w.cell? ⟨b, o + i * 4 + 2, none⟩ = some (.int .i64 (f i).2.2.1) ∧ w.cell? ⟨b, o + i * 4 + 3, none⟩ = some (.int .i64 (f i).2.2.2) ∧ -9223372036854775808 ≤ (f i).2.1 ∧ (f i).2.1 ≤ 9223372036854775807
theorem IsActs.below {w w' : World} {A : Option Addr} {n c : Nat} {f : Nat → Int × Int × Int × Int} (h : IsActs w A n c f) (hb : Below w.heap.size w w') : IsActs w' A n c f :=
  ⟨h.cap, h.max, fun i hi => by
    obtain ⟨b, o, rfl, h0, h1, h2, h3, h4⟩ := h.at_ i hi
    exact ⟨b, o, rfl, by rw [hb.cell (World.block_lt_of_cell? _ _ h0)]; exact h0, by rw [hb.cell (World.block_lt_of_cell? _ _ h1)]; exact h1, by rw [hb.cell (World.block_lt_of_cell? _ _ h2)]; exact h2, by rw [hb.cell (World.block_lt_of_cell? _ _ h3)]; exact h3, h4⟩⟩
theorem acts_of {w : World} {A : Option Addr} {n c : Nat} {l : (Sh.slice shAct).T} (h : (Sh.slice shAct).reads w [.slice A n c] l) : ∃ f, IsActs w A n c f := by
  obtain ⟨A', n', c', he, hl, hn, hc, hr⟩ := h
  simp only [List.cons.injEq, Value.slice.injEq, and_true] at he
  obtain ⟨rfl, rfl, rfl⟩ := he
  refine ⟨fun i => match l[i]? with | some x => (x.1, x.2.1, x.2.2.1.1, x.2.2.1.2.1) | none => (0, 0, 0, 0), hn, hc, fun i hi => ?_⟩
  have hx : l[i]? = some l[i] := List.getElem?_eq_getElem (by omega)
  rcases hr with rfl | ⟨b, o, rfl, hr⟩
  · simp at hl; omega
  · obtain ⟨cs, _, h2, h3⟩ := hr i _ hx
    obtain ⟨e, hw⟩ := act_cells h3
    subst e
    rw [hx]
    have hz : Sh.size shAct = 4 := rfl
    rw [hz] at h2
    have hw := i64_bd hw
    exact ⟨b, o, rfl, h2 0 _ rfl, h2 1 _ rfl, h2 2 _ rfl, h2 3 _ rfl, hw⟩
end Go.Proofs.YtdbghnfmhgjkaaaDoor
