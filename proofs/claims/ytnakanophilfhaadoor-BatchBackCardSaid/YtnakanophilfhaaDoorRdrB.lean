/- wire: the reader. -/
import Derived.Test.YtnakanophilfhaaDoorWbA
import Derived.Test.YtnakanophilfhaaDoorK3
import Derived.Test.YtnakanophilfhaaDoorPureR
namespace Go.Proofs.YtnakanophilfhaaDoor
open Go.RowKit Go.Dio
set_option linter.unusedVariables false
set_option linter.unusedSimpArgs false

/-- A reader stands in block rb; its bytes lie in another one. -/
structure RdrAt (w : World) (base rb : Nat) (s : Rst) : Prop where
  lo : base ≤ rb
  own : ∃ A n c, w.heap[rb]? = some (.cells #[.slice A n c, .int .i64 s.2, .bool true] 86 (0, 0)) ∧ IsB w A n c s.1 ∧ ∀ a, A = some a → base ≤ a.block ∧ a.block ≠ rb

theorem RdrAt.lt {w : World} {base rb : Nat} {s : Rst} (h : RdrAt w base rb s) : rb < w.heap.size := by
  obtain ⟨A, n, c, h1, -⟩ := h.own
  exact (Array.getElem?_eq_some_iff.1 h1).1
/-- What leaves all from base on as it was leaves the reader. -/
theorem RdrAt.move {w w' : World} {base rb : Nat} {s : Rst} (h : RdrAt w base rb s) (hk : ∀ k, base ≤ k → k < w.heap.size → w'.heap[k]? = w.heap[k]?) : RdrAt w' base rb s := by
  have hlt := h.lt
  obtain ⟨h1, A, n, c, h2, h3, h4⟩ := h
  refine ⟨h1, A, n, c, by rw [hk rb h1 hlt]; exact h2, ?_, h4⟩
  by_cases hn : bv s.1 = []
  · exact ⟨h3.len, h3.cap, h3.max, .inl hn⟩
  · exact h3.move fun a ha => by
      subst ha
      exact hk _ (h4 a rfl).1 (h3.cells.lt hn)
theorem RdrAt.below {w w' : World} {base rb : Nat} {s : Rst} (h : RdrAt w base rb s) (hb : Below w.heap.size w w') : RdrAt w' base rb s := h.move fun k _ hk => hb.block k hk
/-- What a reader's call leaves: its own block alone may have turned. -/
def RdrOut (w : World) (base rb : Nat) (v : Value) (s : Rst) (e : Ending) (w' : World) : Prop := e = .returned v ∧ RdrAt w' base rb s ∧ w.grownBy w' (some rb)

set_option maxRecDepth 100000 in
theorem none_any (base rb : Nat) (s : Rst) (w : World) (h : RdrAt w base rb s) :
    Calls Tryd.prog 94 #[.pointer (some ⟨rb, 0, none⟩)] w fun e w' => e = .returned (.bool (s.2 != 0)) ∧ w = w' := by
  obtain ⟨h1, A, n, c, h2, h3, h4⟩ := h
  have c1 : w.cell? ⟨rb, 1, none⟩ = some (.int .i64 s.2) := by simp [World.cell?, h2]
  have c2 : w.cell? ⟨rb, 2, none⟩ = some (.bool true) := by simp [World.cell?, h2]
  generalize s.2 = e at *
  clear h2 h3 h4
  by_cases he : e = 0
  · have hb1 : (e == 0) = true := by simp [he]
    have hb2 : (e != 0) = false := by simp [he]
    clear he
    go_enter Tryd.func94, Tryd.ntmps94
    go_wp2
    go_ret
    exact ⟨ret_bool hb2.symm, rfl⟩
  · have hb1 : (e == 0) = false := by simp [he]
    have hb2 : (e != 0) = true := by simp [he]
    clear he
    go_enter Tryd.func94, Tryd.ntmps94
    go_wp2
    go_ret
    exact ⟨ret_bool hb2.symm, rfl⟩

theorem cellsT_set {w : World} {g : Nat} {t : TypeId} {cs : Array Value} (h : w.heap[g]? = some (.cells cs t (0, 0))) (i : Nat) (u : Value) : (w.setCell ⟨g, i, none⟩ u).heap[g]? = some (.cells (cs.setIfInBounds i u) t (0, 0)) := by
  simp [World.setCell, Array.getElem?_modify, h]
theorem grown_set (w : World) (g i : Nat) (u : Value) : w.grownBy (w.setCell ⟨g, i, none⟩ u) (some g) :=
  ⟨rfl, rfl, rfl, by simp [World.setCell], fun k _ hk => Below.heap_setCell w ⟨g, i, none⟩ u k (fun e => hk (by rw [e]))⟩
theorem grown_trans {w w1 w2 : World} {r : Option Nat} (h : w.grownBy w1 r) (k : w1.grownBy w2 r) : w.grownBy w2 r :=
  ⟨k.os.trans h.os, k.tape.trans h.tape, k.output.trans h.output, Nat.le_trans h.size k.size, fun i hi hr => (k.block i (Nat.lt_of_lt_of_le hi h.size) hr).trans (h.block i hi hr)⟩

/-- A reader's block is written: its bytes and its error. -/
theorem RdrAt.set {w : World} {base rb : Nat} {s : Rst} (h1 : base ≤ rb) {A A' : Option Addr} {n c n' c' : Nat} (h2 : w.heap[rb]? = some (.cells #[.slice A n c, .int .i64 s.2, .bool true] 86 (0, 0)))
    (h4 : ∀ a, A' = some a → base ≤ a.block ∧ a.block ≠ rb) {ys : List UInt8} (h3 : IsB w A' n' c' ys) :
    RdrAt ((w.setCell ⟨rb, 1, none⟩ (.int .i64 0)).setCell ⟨rb, 0, none⟩ (.slice A' n' c')) base rb (ys, 0) := by
  have g1 := cellsT_set h2 1 (.int .i64 0)
  have g2 := cellsT_set g1 0 (.slice A' n' c')
  refine ⟨h1, A', n', c', g2, h3.move fun a ha => ?_, h4⟩
  rw [Below.heap_setCell _ _ _ _ (h4 a ha).2, Below.heap_setCell _ _ _ _ (h4 a ha).2]
theorem RdrAt.setE {w : World} {base rb : Nat} {s : Rst} (h : RdrAt w base rb s) (e : Int) : RdrAt (w.setCell ⟨rb, 1, none⟩ (.int .i64 e)) base rb (s.1, e) := by
  obtain ⟨h1, A, n, c, h2, h3, h4⟩ := h
  refine ⟨h1, A, n, c, cellsT_set h2 1 (.int .i64 e), h3.move fun a ha => ?_, h4⟩
  rw [Below.heap_setCell _ _ _ _ (h4 a ha).2]

set_option maxRecDepth 100000 in
set_option maxHeartbeats 1000000 in
theorem Upto_any (base rb : Nat) (s : Rst) (most : Int) (w : World) (h : RdrAt w base rb s) :
    Calls Tryd.prog 66 #[.pointer (some ⟨rb, 0, none⟩), .int .i64 most] w (RdrOut w base rb (.int .i64 (rUpto most s).1) (rUpto most s).2) := by
  by_cases he : s.2 ≠ 0
  · rw [rUpto_err most s he]
    have hs : (s.2 != 0) = true := by simp [he]
    clear he
    go_enter Tryd.func66, Tryd.ntmps66
    go_wp2_with fail
    refine (none_any base rb s _ h).mono ?_
    rw [hs]
    rintro e w' ⟨rfl, rfl⟩
    go_wp2_with fail
    go_ret
    exact ⟨rfl, h, World.grownBy.refl _ _⟩
  · obtain ⟨xs, e0⟩ := s
    obtain rfl : e0 = 0 := by simpa using he
    clear he
    have hH := hid h
    have hlt := h.lt
    obtain ⟨h1, A, n, c, h2, h3, h4⟩ := h
    have c0 : w.cell? ⟨rb, 0, none⟩ = some (.slice A n c) := by simp [World.cell?, h2]
    have c1 : w.cell? ⟨rb, 1, none⟩ = some (.int .i64 0) := by simp [World.cell?, h2]
    have f0 : ∀ i, w.frozen? ⟨rb, i, none⟩ = false := fun i => by simp [World.frozen?, h2]
    have f00 := f0 0
    have f01 := f0 1
    rcases hnum : numL xs with ⟨nn, k, e⟩
    obtain ⟨q1, q2, q3⟩ := rUpto_cases most xs nn k e hnum
    have hle := fun h0 : e = 0 => numL_le xs nn k (by rw [hnum, h0])
    have HNUM := hid hnum
    have H2 := hid h2; have H3 := hid h3; have H4 := hid h4
    have hc := h3.cap; have hm := h3.max
    clear h2 h3 h4 f0 hnum
    by_cases ce : e = 0
    · subst ce
      obtain ⟨hk1, hk2, hk3⟩ := hle rfl
      rw [H3.out.len] at hk1
      clear hle q1
      by_cases cm : most < (nn : Int)
      · have F := hid (q2 rfl cm); clear q2 q3
        go_enter Tryd.func66, Tryd.ntmps66
        go_wp2_with fail
        refine (none_any base rb (xs, 0) _ hH.out).mono ?_
        rintro e w' ⟨rfl, rfl⟩
        go_wp2_with fail
        refine (number_any A n c xs _ H3.out).mono ?_
        rw [HNUM.out]
        rintro e w' ⟨rfl, hw⟩
        have hw := hw.symm; subst hw
        go_wp2_with fail
        go_ret
        rw [F.out]
        exact ⟨rfl, hH.out.setE 30, grown_set w rb 1 _⟩
      · have cm' : (nn : Int) ≤ most := by omega
        have F := hid (q3 rfl cm'); clear q2 q3
        have hcut := run_cut_l (P := Tryd.prog) 31 5 Tryd.underlying31 (info_parts info_u8).choose_spec.1 (info_parts info_u8).choose_spec.2.2.1 A n c .i64 (k : Int) (by omega) (by omega)
        rw [Int.toNat_natCast] at hcut
        have hd := hid (H3.out.drop k hk1)
        have hA : ∀ a, cutA A c k 1 = some a → base ≤ a.block ∧ a.block ≠ rb := fun a ha => by
          unfold cutA at ha
          split at ha
          · exact H4.out a ha
          · rcases A with _ | a0
            · cases ha
            · simp only [Option.map_some, Option.some.injEq] at ha
              subst ha
              have := H4.out a0 rfl
              unfold Addr.add
              split <;> exact this
        have HA := hid hA; clear hA
        generalize cutA A c k 1 = A2 at *
        go_enter Tryd.func66, Tryd.ntmps66
        go_wp2_with fail
        refine (none_any base rb (xs, 0) _ hH.out).mono ?_
        rintro e w' ⟨rfl, rfl⟩
        go_wp2_with fail
        refine (number_any A n c xs _ H3.out).mono ?_
        rw [HNUM.out]
        rintro e w' ⟨rfl, hw⟩
        have hw := hw.symm; subst hw
        go_wp2_with fail
        go_ret
        rw [F.out]
        exact ⟨rfl, RdrAt.set (s := (xs, 0)) h1 H2.out HA.out hd.out, grown_trans (grown_set w rb 1 _) (grown_set _ rb 0 _)⟩
    · have F := hid (q1 ce); clear q1 q2 q3 hle
      have he : ((e : Int) == 0) = false := by simp; omega
      have he' : ((e : Int) != 0) = true := by rw [bne_iff_ne]; omega
      clear ce
      go_enter Tryd.func66, Tryd.ntmps66
      go_wp2_with fail
      refine (none_any base rb (xs, 0) _ hH.out).mono ?_
      rintro e w' ⟨rfl, rfl⟩
      go_wp2_with fail
      refine (number_any A n c xs _ H3.out).mono ?_
      rw [HNUM.out]
      rintro e w' ⟨rfl, hw⟩
      have hw := hw.symm; subst hw
      go_wp2_with fail
      go_ret
      rw [F.out]
      exact ⟨rfl, hH.out.setE _, grown_set w rb 1 _⟩
end Go.Proofs.YtnakanophilfhaaDoor
