/- Lent, Stays. -/
import Derived.Test.YtdbghnfmhgjkaaaDoorWbA
import Derived.Test.YtdbghnfmhgjkaaaDoorK3
import Derived.Test.YtdbghnfmhgjkaaaDoorK2
import Derived.Lib.AppendZerosOnto
namespace Go.Proofs.YtdbghnfmhgjkaaaDoor
open Go.RowKit Go.Dio
set_option linter.unusedVariables false
set_option linter.unusedSimpArgs false

/-- Bytes with marked room behind them. -/
def LentB (w : World) (base g cap : Nat) (xs : List UInt8) : Prop := OwnB 5 w base (.slice (some ⟨g, 0, none⟩) (xs.length + 2) cap) (xs ++ [61, 62])
theorem LentB.isB {w : World} {base g cap : Nat} {xs : List UInt8} (h : LentB w base g cap xs) : IsB w (some ⟨g, 0, none⟩) xs.length cap xs ∧ g < w.heap.size ∧ base ≤ g := by
  obtain ⟨A, n, c, e, h1, h2⟩ := h.form
  cases e
  have := h1.take xs.length (by omega)
  rw [List.take_left] at this
  obtain ⟨q1, q2, -⟩ := h2 _ rfl
  refine ⟨⟨rfl, this.cap, this.max, ?_⟩, q2, q1⟩
  have h3 := this.cells
  unfold cutA at h3
  split at h3
  · exact h3
  · simpa [Addr.add] using h3
def LentOut (w : World) (xs : List UInt8) (e : Ending) (w' : World) : Prop := ∃ g cap, e = .returned (.slice (some ⟨g, 0, none⟩) xs.length cap) ∧ LentB w' w.heap.size g cap xs ∧ Below w.heap.size w w'

set_option maxRecDepth 100000 in
set_option maxHeartbeats 1000000 in
theorem Lent_any (A : Option Addr) (n c : Nat) (xs : List UInt8) (w : World) (h : IsB w A n c xs) (hn : n ≤ 140737488355000) :
    Calls Tryd.prog 40 #[.slice A n c] w (LentOut w xs) := by
  have HH := hid h
  have hl := hid h.len
  have hc := h.cap; have hm := h.max
  clear h
  go_enter Tryd.func40, Tryd.ntmps40
  go_wp2_with (at_builtin; refine wpList_append_b (w0 := w) w.heap.size rfl _ _ 55 5 rfl Tryd.underlying55 info_u8 _ n [] xs A c rfl rfl ?c1 (HH.out.below (below_alloc1 w _)) (below_alloc1 w _) ?c2 ?c3 ?_)
  case c1 => exact OwnB.lit _ w _ [] (Nat.le_refl _) (by simp)
  case c2 => simp
  case c3 => simp; omega
  intro v1 w1 ho hb hg hat
  clear hg hat
  have hs1 := hb.size
  go_wp2_with (at_builtin; refine wpList_append_b (w0 := w) w.heap.size rfl _ _ 55 5 rfl Tryd.underlying55 info_u8 _ 2 _ [61, 62] _ 2 rfl rfl (ho.alloc _) (IsB.newL w1 5 [61, 62] (by simp)) (hb.alloc hs1 _) ?c4 ?c5 ?_)
  case c4 => simp; omega
  case c5 => simp [hl.out]; omega
  intro v2 w2 ho2 hb2 hg2 hat2
  clear hg2 hat2 ho
  obtain ⟨g, cap, rfl, hbg, hgl, hlc, hcm, -, -, -⟩ := ho2.at_ (by simp)
  have hlc' : n + 2 ≤ cap := by have := hl.out; simp at hlc; omega
  have HO := hid ho2; clear ho2 hlc
  go_wp2_with fail
  go_ret
  refine ⟨g, cap, by rw [hl.out]; rfl, ?_, hb2⟩
  have := HO.out
  rw [List.length_append] at this
  exact this

set_option maxRecDepth 100000 in
set_option maxHeartbeats 1000000 in
theorem Stays_any (g cap base : Nat) (A : Option Addr) (n c : Nat) (xs : List UInt8) (w : World) (h : IsB w A n c xs) (hw : LentB w base g cap xs) (hn : n ≤ 140737488355000) :
    Calls Tryd.prog 49 #[.slice (some ⟨g, 0, none⟩) n cap, .slice A n c] w fun e w' => e = .returned (.bool true) ∧ Drawn w w' := by
  have hl := h.len
  have hc := h.cap; have hm := h.max
  obtain ⟨g', cap', e', -, hgl, hlc, hcm, hcell, -, -⟩ := hw.at_ (by simp)
  injection e' with e1 e2 e3
  injection e1 with e1
  injection e1 with e1 _ _
  subst e1 e3
  clear e2
  have hlc' : n + 2 ≤ cap := by simp at hlc; omega
  have h61 : w.cell? ⟨g, n, none⟩ = some (.int .u8 61) := by rw [hcell n (by simp; omega)]; simp [gb, ← hl]
  have h62 : w.cell? ⟨g, n + 1, none⟩ = some (.int .u8 62) := by rw [hcell (n + 1) (by simp; omega)]; simp [gb, ← hl, List.getElem?_append]
  have hc61 : ∀ k, (w.drewN k).cell? ⟨g, n, none⟩ = some (.int .u8 61) := fun k => h61
  obtain ⟨hb1, -, -⟩ := hw.isB
  have hs1 := fun k => run_string (P := Tryd.prog) 55 9 5 Tryd.underlying55 Tryd.underlying5 Tryd.underlying9 (hb1.below (Drawn.below (w' := w.drewN k) ⟨k, rfl⟩))
  have hs2 := fun k => run_string (P := Tryd.prog) 55 9 5 Tryd.underlying55 Tryd.underlying5 Tryd.underlying9 (h.below (Drawn.below (w' := w.drewN k) ⟨k, rfl⟩))
  rw [hl] at hs1
  generalize mkS xs = s at *
  clear hc61 hcell h hw hb1 hlc
  have HL := hid hl; clear hl
  go_enter Tryd.func49, Tryd.ntmps49
  go_wp2_with fail
  go_quiet (fail)
  go_wp2
  go_ret
  exact ⟨rfl, _, rfl⟩

end Go.Proofs.YtdbghnfmhgjkaaaDoor
