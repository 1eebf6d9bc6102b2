/- A region that draws, walked in the order in which it is written: what may come up when is looked up once. -/
import Derived.Test.YtnakanophilfhaaDoorReg
set_option linter.unusedVariables false
set_option linter.unusedSimpArgs false
namespace Go.Proofs.YtnakanophilfhaaDoor
section
variable {P : Program} {Q : Exit → Act → World → Prop} {md : Region.Mode} {S : World → Prop} {ops : Array Oper} {calls : List Nat}
/-- In the written order: these are the only ones that may come up then; each other one may be taken first. -/
def heldB (md : Region.Mode) (ops : Array Oper) (calls : List Nat) : Nat → Nat → Array Bool → Bool
  | 0, _, listed => (Region.ready md ops listed).isEmpty
  | fuel + 1, k, listed =>
    (if calls.contains k then Region.ready md ops listed == [k] else (Region.ready md ops listed).contains k && Region.free md ops listed k) && heldB md ops calls fuel (k + 1) (listed.setIfInBounds k true)
/-- The walk in that order. -/
def wpHeld (P : Program) (ops : Array Oper) (Q : Exit → Act → World → Prop) (S : World → Prop) (calls : List Nat) : List Oper → Nat → Act → World → Prop
  | [], _, a, w => Q .normal a w
  | o :: rest, k, a, w =>
    if calls.contains k = true then
      if Region.wanted o (yielded ops a.tmps) = true then o.wp P a w (fun a' w' => S w' ∧ wpHeld P ops Q S calls rest (k + 1) a' w') Q else wpHeld P ops Q S calls rest (k + 1) (a.put o.dst undef) w
    else ∃ v, ((Region.wanted o (yielded ops a.tmps) = true ∧ ∀ w, S w → (execOp a.eval o).run P w = .ok (.value v) w) ∨ (Region.wanted o (yielded ops a.tmps) = false ∧ v = undef)) ∧ wpHeld P ops Q S calls rest (k + 1) (a.put o.dst v) w
theorem wpAnyH_held (hs : Region.noSelect ops = true) (hQ : ∀ c d v a w, Q (.panic c) (a.put d v) w → Q (.panic c) a w) :
    ∀ (l : List Oper) (k : Nat) (listed : Array Bool) (a : Act) (w : World), (∀ j, l[j]? = ops[k + j]?) → heldB md ops calls l.length k listed = true → S w → wpHeld P ops Q S calls l k a w →
      wpAnyH P md ops Q S l.length listed a w
  | [], k, listed, a, w, _, hB, hS, h => ⟨by simpa [heldB] using hB, h⟩
  | o :: l, k, listed, a, w, hl, hB, hS, h => by
    have h0 : ops[k]? = some o := by simpa using (hl 0).symm
    have hl' : ∀ j, l[j]? = ops[k + 1 + j]? := fun j => by have := hl (j + 1); simpa [Nat.add_assoc, Nat.add_comm 1 j] using this
    simp only [List.length_cons, heldB, Bool.and_eq_true] at hB
    obtain ⟨hB1, hB2⟩ := hB
    unfold wpHeld at h
    by_cases hc : calls.contains k = true
    · rw [if_pos hc] at hB1 h
      have hr : Region.ready md ops listed = [k] := by simpa using hB1
      refine wpAnyH_ready hr (by simp) (AllReadyH.cons h0 (fun K' hK => ?_) AllReadyH.nil)
      split
      · rename_i hw
        rw [if_pos hw] at h
        exact Oper.wp_mono (fun a' w' h' => hK.out a' w' h'.1 fun hS' => wpAnyH_held hs hQ l (k + 1) _ a' w' hl' hB2 hS' h'.2) h
      · rename_i hw
        rw [if_neg hw] at h
        exact hK.out _ _ hS fun hS' => wpAnyH_held hs hQ l (k + 1) _ _ w hl' hB2 hS' h
    · rw [if_neg hc] at hB1 h
      simp only [Bool.and_eq_true] at hB1
      obtain ⟨v, hv, hn⟩ := h
      exact wpAnyH_take (i := k) (oi := o) h0 hs hB1.2 hB1.1 (fun c a w => hQ c o.dst v a w) hv hS (wpAnyH_held hs hQ l (k + 1) _ _ w hl' hB2 hS hn)
theorem wp_region_heldL {id : Nat} {l : List Oper} {a : Act} {w : World} (calls : List Nat) (hm : P.follows .mixedOrders = true) (hs : Region.noSelect l.toArray = true) (hB : heldB .any l.toArray calls l.length 0 (Array.replicate l.length false) = true)
    (hQ : ∀ c d v a w, Q (.panic c) (a.put d v) w → Q (.panic c) a w) (hS : S w.drew) (h : S w.drew → wpHeld P l.toArray Q S calls l 0 a w.drew) : (Code.region id l.toArray true).wp P Q a w := by
  refine wp_region_held_drew hm hS fun hS' => ?_
  have := wpAnyH_held (md := .any) hs hQ l 0 (Array.replicate l.length false) a w.drew (by simp) hB hS' (h hS')
  simpa using this
variable {rest : List Oper} {o : Oper} {k : Nat} {a : Act} {w : World}
/-- The steps. -/
theorem hT {v : Value} (hc : calls.contains k = false) (hw : Region.wanted o (yielded ops a.tmps) = true) (hy : ∀ w, S w → (execOp a.eval o).run P w = .ok (.value v) w)
    (h : wpHeld P ops Q S calls rest (k + 1) (a.put o.dst v) w) : wpHeld P ops Q S calls (o :: rest) k a w := by
  unfold wpHeld
  rw [if_neg (by rw [hc]; simp)]
  exact ⟨v, .inl ⟨hw, hy⟩, h⟩
theorem hU (hw : Region.wanted o (yielded ops a.tmps) = false) (h : wpHeld P ops Q S calls rest (k + 1) (a.put o.dst undef) w) : wpHeld P ops Q S calls (o :: rest) k a w := by
  unfold wpHeld
  split
  · rw [if_neg (by rw [hw]; simp)]; exact h
  · exact ⟨undef, .inr ⟨hw, rfl⟩, h⟩
theorem hC (hc : calls.contains k = true) (hw : Region.wanted o (yielded ops a.tmps) = true)
    (h : ∀ K : Act → World → Prop, Shut (∀ a w, S w → (S w → wpHeld P ops Q S calls rest (k + 1) a w) → K a w) → o.wp P a w K Q) : wpHeld P ops Q S calls (o :: rest) k a w := by
  unfold wpHeld
  rw [if_pos hc, if_pos hw]
  exact h _ fun a w h1 h2 => ⟨h1, h2 h1⟩
/-- Nothing yielded yet. -/
def isUndef : Value → Bool
  | .tuple ⟨[]⟩ => true
  | _ => false
theorem isUndef_eq : ∀ {v : Value}, isUndef v = true → v = undef
  | .tuple ⟨[]⟩, _ => rfl
/-- The next n operations are not wanted, and nothing stands in their slots. -/
def skipN (ops : Array Oper) (a : Act) : Nat → List Oper → Bool
  | 0, _ => true
  | _ + 1, [] => false
  | n + 1, o :: rest => !(Region.wanted o (yielded ops a.tmps)) && ((match o.dst with | none => true | some d => (match a.tmps[d]? with | some v => isUndef v | none => true)) && skipN ops a n rest)
theorem put_same {a : Act} {d : Option Nat} (h : (match d with | none => true | some d => (match a.tmps[d]? with | some v => isUndef v | none => true)) = true) : a.put d undef = a := by
  obtain ⟨t, ds⟩ := a
  rcases d with _ | d
  · rfl
  · simp only at h
    simp only [Act.put, Act.mk.injEq, and_true]
    apply Array.ext_getElem?
    intro i
    rw [Array.getElem?_setIfInBounds]
    split
    · rename_i e
      subst e
      split
      · rename_i hlt
        rw [Array.getElem?_eq_getElem hlt] at h ⊢
        rw [isUndef_eq h]
      · rename_i hlt
        rw [Array.getElem?_eq_none (by omega)]
    · rfl
theorem hUs : ∀ (n : Nat) {l : List Oper} {k : Nat} {a : Act} {w : World}, skipN ops a n l = true → wpHeld P ops Q S calls (l.drop n) (k + n) a w → wpHeld P ops Q S calls l k a w
  | 0, l, k, a, w, _, h => h
  | n + 1, [], k, a, w, h, _ => by cases h
  | n + 1, o :: rest, k, a, w, hs, h => by
    simp only [skipN, Bool.and_eq_true, Bool.not_eq_true'] at hs
    refine hU hs.1 ?_
    rw [put_same hs.2.1]
    refine hUs n hs.2.2 ?_
    rw [show k + 1 + n = k + (n + 1) by omega]
    exact h
theorem hDone (h : Q .normal a w) : wpHeld P ops Q S calls [] k a w := h
end
end Go.Proofs.YtnakanophilfhaaDoor
