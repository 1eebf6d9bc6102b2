/- The document's reader: its other calls. -/
import Derived.Test.YtdbghnfmhgjkaaaDoorDocR
namespace Go.Proofs.YtdbghnfmhgjkaaaDoor
open Go.RowKit Go.Dio
set_option linter.unusedVariables false
set_option linter.unusedSimpArgs false

theorem dNum_r (base rb : Nat) (s : Rst) (w : World) (h : DocAt w base rb s) :
    Calls Tryd.prog 100 #[.pointer (some ⟨rb, 0, none⟩)] w (DocOut w base rb (.int .i64 (rUpto 281474976710655 s).1) (rUpto 281474976710655 s).2) := by
  go_enter Tryd.func100, Tryd.ntmps100
  go_wp2_with fail
  refine (dUpto_any base rb s 281474976710655 _ h).mono ?_
  rintro e w' ⟨rfl, h1, h2⟩
  go_wp2_with fail
  go_ret
  exact ⟨rfl, h1, h2⟩

theorem dLeft_r (base rb : Nat) (s : Rst) (w : World) (h : DocAt w base rb s) :
    Calls Tryd.prog 47 #[.pointer (some ⟨rb, 0, none⟩)] w fun e w' => e = .returned (.int .i64 (s.1.length : Int)) ∧ Drawn w w' := by
  obtain ⟨h1, A, n, c, xs, at_, h2, h3, h4, h5, h6, h7⟩ := h
  have c0 : ∀ k, (w.drewN k).cell? ⟨rb, 0, none⟩ = some (.slice A n c) := fun k => cell_of h2 0 rfl
  have c1 : ∀ k, (w.drewN k).cell? ⟨rb, 1, none⟩ = some (.int .i64 at_) := fun k => cell_of h2 1 rfl
  have hl := hid (show (s.1.length : Int) = (n : Int) - at_ by rw [h6, List.length_drop, h3.len]; omega)
  clear h2 h3 h6 h7
  go_enter Tryd.func47, Tryd.ntmps47
  go_wp2_with fail
  go_quiet (fail)
  go_wp2
  go_ret
  rw [hl.out]
  exact ⟨rfl, _, rfl⟩

theorem dDone_r (base rb : Nat) (s : Rst) (w : World) (h : DocAt w base rb s) :
    Calls Tryd.prog 48 #[.pointer (some ⟨rb, 0, none⟩)] w fun e w' => e = .returned (.int .i64 (rDone s)) ∧ Drawn w w' := by
  have c2 := h.cE
  by_cases he : s.2 = 0
  · have F := hid (show rDone s = if 0 < s.1.length then 21 else 0 by unfold rDone; rw [he]; simp)
    rw [he] at c2
    have H := hid h
    clear h he
    go_enter Tryd.func48, Tryd.ntmps48
    go_wp2_with fail
    refine (dLeft_r base rb s _ H.out).mono ?_
    rintro e w' ⟨rfl, k, rfl⟩
    have c2' : (w.drewN k).cell? ⟨rb, 2, none⟩ = some (.int .i64 0) := c2
    by_cases hl : 0 < s.1.length
    · rw [if_pos hl] at F
      go_wp2_with fail
      go_ret
      rw [F.out]
      exact ⟨rfl, k, rfl⟩
    · rw [if_neg hl] at F
      go_wp2_with fail
      go_ret
      rw [F.out]
      exact ⟨rfl, k, rfl⟩
  · have F := hid (show rDone s = s.2 by unfold rDone; rw [if_neg (by simp [he])])
    have hs : (s.2 == 0) = false := by simp [he]
    clear h he
    go_enter Tryd.func48, Tryd.ntmps48
    go_wp2_with fail
    go_ret
    rw [F.out]
    exact ⟨rfl, 0, rfl⟩

/-- A reader that nobody read. -/
def DOpenOut (w : World) (xs : List UInt8) (e : Ending) (w' : World) : Prop := ∃ rb, e = .returned (.pointer (some ⟨rb, 0, none⟩)) ∧ DocAt w' w.heap.size rb (xs, 0) ∧ Below w.heap.size w w'
set_option maxRecDepth 100000 in
set_option maxHeartbeats 1000000 in
theorem dOpen_any (A : Option Addr) (n c : Nat) (xs : List UInt8) (w : World) (h : IsB w A n c xs) (hn : n ≤ 140737488355328) :
    Calls Tryd.prog 41 #[.slice A n c] w (DOpenOut w xs) := by
  have HH := hid h
  clear h
  go_enter Tryd.func41, Tryd.ntmps41
  go_wp2_with (at_builtin; refine wpList_append_b (w0 := w) w.heap.size rfl _ _ 55 5 rfl Tryd.underlying55 info_u8 _ n [] xs A c rfl rfl ?c1 (HH.out.below (below_alloc1 w _)) (below_alloc1 w _) (below_alloc1 w _).size (by simp; omega) ?_)
  case c1 => exact OwnB.lit 5 w w.heap.size [] (Nat.le_refl _) (by simp)
  intro v1 w1 ho hb hg hat
  obtain ⟨A1, n1, c1, rfl, h1, hA⟩ := ho.form
  have hl := h1.len
  have hl : xs.length = n1 := hl
  rw [HH.out.len] at hl
  have hlt : ∀ a, A1 = some a → w.heap.size ≤ a.block ∧ a.block < w1.heap.size := fun a ha => ⟨(hA a ha).1, (hA a ha).2.1⟩
  have H1 := hid h1; have HB := hid hb; have HLT := hid hlt
  clear ho h1 hb hA hlt hg hat
  go_wp2_with fail
  go_ret
  refine ⟨_, rfl, ⟨HB.out.size, A1, n1, c1, xs, 0, heap_alloc_new w1 _, (show IsB w1 A1 n1 c1 xs from H1.out).below (below_alloc1 w1 _), by omega, by omega, rfl, fun a ha => ?_⟩, below_new HB.out _⟩
  have := HLT.out a ha
  exact ⟨this.1, by omega⟩
end Go.Proofs.YtdbghnfmhgjkaaaDoor
