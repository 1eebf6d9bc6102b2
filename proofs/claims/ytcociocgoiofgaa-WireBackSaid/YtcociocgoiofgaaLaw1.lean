/- What the statements of layer 1 lean on: num, Lent, Stays, knows. -/
import Derived.Test.YtcociocgoiofgaaRef2
import Derived.Test.YtcociocgoiofgaaPure2
import Derived.Test.YtcociocgoiofgaaK3
namespace Go.Proofs.Ytcociocgoiofgaa
open Go.RowKit Go.Dio
set_option linter.unusedVariables false
set_option linter.unusedSimpArgs false

theorem num1_any (e : Int) (w : World) : Calls Try.prog 22 #[.int .i64 e] w fun en w' => en = .returned (.int .i64 e) ∧ w = w' := by
  go_enter Try.func22, Try.ntmps22
  go_wp2
  go_ret
  exact ⟨rfl, rfl⟩

/-- Bytes with marked room behind them. -/
def LentB (w : World) (base g cap : Nat) (xs : List UInt8) : Prop := OwnB 5 w base (.slice (some ⟨g, 0, none⟩) (xs.length + 2) cap) (xs ++ [61, 62])
theorem LentB.isB {w : World} {base g cap : Nat} {xs : List UInt8} (h : LentB w base g cap xs) : IsB w (some ⟨g, 0, none⟩) xs.length cap xs ∧ g < w.heap.size ∧ base ≤ g := by
  obtain ⟨A, n, c, e, h1, h2⟩ := h.form
  cases e
  have := h1.take xs.length (by omega)
  rw [List.take_left] at this
  obtain ⟨q1, q2, -⟩ := h2 _ rfl
  refine ⟨⟨rfl, this.cap, this.max, ?_⟩, q2, q1⟩
  have h3 := this.cells
  unfold cutA at h3
  split at h3
  · exact h3
  · simpa [Addr.add] using h3
def LentOut (w : World) (xs : List UInt8) (e : Ending) (w' : World) : Prop := ∃ g cap, e = .returned (.slice (some ⟨g, 0, none⟩) xs.length cap) ∧ LentB w' w.heap.size g cap xs ∧ Below w.heap.size w w'

set_option maxRecDepth 100000 in
set_option maxHeartbeats 1000000 in
theorem Lent_any (A : Option Addr) (n c : Nat) (xs : List UInt8) (w : World) (h : IsB w A n c xs) (hn : n ≤ 140737488355000) :
    Calls Try.prog 19 #[.slice A n c] w (LentOut w xs) := by
  have HH := hid h
  have hl := hid h.len
  have hc := h.cap; have hm := h.max
  clear h
  go_enter Try.func19, Try.ntmps19
  go_wp2_with (at_builtin; refine wpList_append_b (w0 := w) w.heap.size rfl _ _ 22 5 rfl Try.underlying22 info_u8 _ n [] xs A c rfl rfl ?c1 (HH.out.below (below_alloc1 w _)) (below_alloc1 w _) ?c2 ?c3 ?_)
  case c1 => exact OwnB.lit _ w _ [] (Nat.le_refl _) (by simp)
  case c2 => simp
  case c3 => simp; omega
  intro v1 w1 ho hb hg hat
  clear hg hat
  have hs1 := hb.size
  go_wp2_with (at_builtin; refine wpList_append_b (w0 := w) w.heap.size rfl _ _ 22 5 rfl Try.underlying22 info_u8 _ 2 _ [61, 62] _ 2 rfl rfl (ho.alloc _) (IsB.newL w1 5 [61, 62] (by simp)) (hb.alloc hs1 _) ?c4 ?c5 ?_)
  case c4 => simp; omega
  case c5 => simp [hl.out]; omega
  intro v2 w2 ho2 hb2 hg2 hat2
  clear hg2 hat2 ho
  obtain ⟨g, cap, rfl, hbg, hgl, hlc, hcm, -, -, -⟩ := ho2.at_ (by simp)
  have hlc' : n + 2 ≤ cap := by have := hl.out; simp at hlc; omega
  have HO := hid ho2; clear ho2 hlc
  go_wp2_with fail
  go_ret
  refine ⟨g, cap, by rw [hl.out]; rfl, ?_, hb2⟩
  have := HO.out
  rw [List.length_append] at this
  exact this

set_option maxRecDepth 100000 in
set_option maxHeartbeats 1000000 in
theorem Stays_any (g cap base : Nat) (A : Option Addr) (n c : Nat) (xs : List UInt8) (w : World) (h : IsB w A n c xs) (hw : LentB w base g cap xs) (hn : n ≤ 140737488355000) :
    Calls Try.prog 23 #[.slice (some ⟨g, 0, none⟩) n cap, .slice A n c] w fun e w' => e = .returned (.bool true) ∧ Drawn w w' := by
  have hl := h.len
  have hc := h.cap; have hm := h.max
  obtain ⟨g', cap', e', -, hgl, hlc, hcm, hcell, -, -⟩ := hw.at_ (by simp)
  injection e' with e1 e2 e3
  injection e1 with e1
  injection e1 with e1 _ _
  subst e1 e3
  clear e2
  have hlc' : n + 2 ≤ cap := by simp at hlc; omega
  have h61 : w.cell? ⟨g, n, none⟩ = some (.int .u8 61) := by rw [hcell n (by simp; omega)]; simp [gb, ← hl]
  have h62 : w.cell? ⟨g, n + 1, none⟩ = some (.int .u8 62) := by rw [hcell (n + 1) (by simp; omega)]; simp [gb, ← hl, List.getElem?_append]
  have hc61 : ∀ k, (w.drewN k).cell? ⟨g, n, none⟩ = some (.int .u8 61) := fun k => h61
  obtain ⟨hb1, -, -⟩ := hw.isB
  have hs1 := fun k => run_string (P := Try.prog) 22 9 5 Try.underlying22 Try.underlying5 Try.underlying9 (hb1.below (Drawn.below (w' := w.drewN k) ⟨k, rfl⟩))
  have hs2 := fun k => run_string (P := Try.prog) 22 9 5 Try.underlying22 Try.underlying5 Try.underlying9 (h.below (Drawn.below (w' := w.drewN k) ⟨k, rfl⟩))
  rw [hl] at hs1
  generalize mkS xs = s at *
  clear hc61 hcell h hw hb1 hlc
  have HL := hid hl; clear hl
  go_enter Try.func23, Try.ntmps23
  go_wp2_with fail
  go_quiet (fail)
  go_wp2
  go_ret
  exact ⟨rfl, _, rfl⟩

set_option maxRecDepth 100000 in
set_option maxHeartbeats 2000000 in
theorem knows1_any (w : World) : Calls Try.prog 18 #[] w fun e w' => e = .returned (.bool true) ∧ Below w.heap.size w w' := by
  have kc := fun (w : World) (C : Array Value) (n c : Nat) => Lib.run_convert_bytes_const (P := Try.prog) w 22 5 C n c Try.underlying22 Try.underlying5
  go_enter Try.func18, Try.ntmps18
  go_wp2_with fail
  refine (Num_ok 300 _ (by omega)).mono ?_
  rintro e w1 ⟨v1, rfl, ho1, hb1⟩
  obtain ⟨A1, n1, c1, rfl, h1, -⟩ := ho1.form
  have hs1 := hb1.size
  rw [numB_300] at h1
  have H1 := hid h1; clear h1 ho1
  have hf := hid (IsB.newM w1 5 [97, 98] (2, 3) (by simp))
  go_wp2_with fail
  refine (Frame_ok _ 2 2 [97, 98] _ hf.out (by omega)).mono ?_
  rintro e w2 ⟨v2, rfl, ho2, hb2⟩
  obtain ⟨A2, n2, c2, rfl, h2, -⟩ := ho2.form
  have hB2 := below_then (below_new hb1 _) hb2
  have H2 := hid h2; clear h2 ho2
  have hn2 := H2.out.len
  rw [frame_ab_len] at hn2
  subst hn2
  have hs2 := hB2.size
  have hb2' := hid (below_then (below_alloc1 w1 _) hb2)
  clear hb2
  go_wp2_with (at_builtin; refine wpList_append_b (w0 := w2) w2.heap.size rfl _ _ 22 5 rfl Try.underlying22 info_u8 _ 9 [] _ A2 _ rfl rfl ?c1 (H2.out.below (below_alloc1 w2 _)) (below_alloc1 w2 _) ?c2 ?c3 ?_)
  case c1 => exact OwnB.lit _ w2 _ [] (Nat.le_refl _) (by simp)
  case c2 => simp
  case c3 => simp
  intro v3 w3 ho3 hb3 hg3 hat3
  clear hg3 hat3
  have hs3 := hb3.size
  go_wp2_with (at_builtin; refine wpList_append_b (w0 := w2) w2.heap.size rfl _ _ 22 5 rfl Try.underlying22 info_u8 _ 1 _ [9] _ 1 rfl rfl (ho3.alloc _) (IsB.newL w3 5 [9] (by simp)) (hb3.alloc hs3 _) ?c4 ?c5 ?_)
  case c4 => simp; omega
  case c5 => simp [frame_ab_len]
  intro v4 w4 ho4 hb4 hg4 hat4
  clear hg4 hat4 ho3
  obtain ⟨A4, n4, c4, rfl, h4, -⟩ := ho4.form
  have H4 := hid h4; clear h4 ho4
  have hU := unfL_frameB [97, 98] [9] (by simp)
  rw [frame_ab_len] at hU
  have HU := hid hU; clear hU
  go_wp2_with fail
  refine (Unframe_any _ _ _ _ _ H4.out).mono ?_
  rw [HU.out]
  rintro e w5 ⟨v5, rfl, ho5, hb5⟩
  obtain ⟨A5, n5, c5, rfl, h5, -⟩ := ho5.form
  have hB5 := below_then (below_then hB2 hb4) hb5
  have hs1 : (convert 22 9 (.slice A1 n1 c1)).run Try.prog w5 = .ok (.string ⟨#[2, 1, 44]⟩) w5 :=
    run_string (P := Try.prog) 22 9 5 Try.underlying22 Try.underlying5 Try.underlying9 (H1.out.below (below_then (below_then hb2'.out hb4) hb5))
  have hs5 : (convert 22 9 (.slice A5 n5 c5)).run Try.prog w5 = .ok (.string ⟨#[97, 98]⟩) w5 :=
    run_string (P := Try.prog) 22 9 5 Try.underlying22 Try.underlying5 Try.underlying9 h5
  have HB5 := hid hB5
  clear h5 ho5 hb5 hB5 hb4 hb1 hB2 hs3
  go_wp2
  go_ret
  exact ⟨rfl, HB5.out⟩
end Go.Proofs.Ytcociocgoiofgaa
