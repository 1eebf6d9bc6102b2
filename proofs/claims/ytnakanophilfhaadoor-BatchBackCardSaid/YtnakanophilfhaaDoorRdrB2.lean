/- wire: the reader's other calls. -/
import Derived.Test.YtnakanophilfhaaDoorRdrB
namespace Go.Proofs.YtnakanophilfhaaDoor
open Go.RowKit Go.Dio
set_option linter.unusedVariables false
set_option linter.unusedSimpArgs false

def OpenOut (w : World) (xs : List UInt8) (e : Ending) (w' : World) : Prop := ∃ rb, e = .returned (.pointer (some ⟨rb, 0, none⟩)) ∧ RdrAt w' w.heap.size rb (xs, 0) ∧ Below w.heap.size w w'

theorem Open_any (A : Option Addr) (n c : Nat) (xs : List UInt8) (w : World) (h : IsB w A n c xs) (hn : n ≤ 140737488355328) :
    Calls Tryd.prog 17 #[.slice A n c] w (OpenOut w xs) := by
  have HH := hid h; clear h
  go_enter Tryd.func17, Tryd.ntmps17
  go_wp2_with fail
  refine (clone_any A n c xs _ HH.out hn).mono ?_
  rintro e w1 ⟨v1, rfl, ho, hb⟩
  obtain ⟨A1, n1, c1, rfl, h1, hA⟩ := ho.form
  have hlt : ∀ a, A1 = some a → w.heap.size ≤ a.block ∧ a.block < w1.heap.size := fun a ha => ⟨(hA a ha).1, (hA a ha).2.1⟩
  have H1 := hid h1; have HB := hid hb; have HLT := hid hlt
  clear ho h1 hb hA hlt
  go_wp2_with fail
  go_ret
  refine ⟨_, rfl, ⟨HB.out.size, A1, n1, c1, heap_alloc_new w1 _, H1.out.below (below_alloc1 w1 _), fun a ha => ?_⟩, below_new HB.out _⟩
  have := HLT.out a ha
  exact ⟨this.1, by omega⟩

theorem Num_r (base rb : Nat) (s : Rst) (w : World) (h : RdrAt w base rb s) :
    Calls Tryd.prog 63 #[.pointer (some ⟨rb, 0, none⟩)] w (RdrOut w base rb (.int .i64 (rUpto 281474976710655 s).1) (rUpto 281474976710655 s).2) := by
  go_enter Tryd.func63, Tryd.ntmps63
  go_wp2_with fail
  refine (Upto_any base rb s 281474976710655 _ h).mono ?_
  rintro e w' ⟨rfl, h1, h2⟩
  go_wp2_with fail
  go_ret
  exact ⟨rfl, h1, h2⟩

set_option maxRecDepth 100000 in
set_option maxHeartbeats 2000000 in
theorem Text_r (base rb : Nat) (s : Rst) (w : World) (h : RdrAt w base rb s) :
    Calls Tryd.prog 65 #[.pointer (some ⟨rb, 0, none⟩)] w (RdrOut w base rb (.string (mkS (rText s).1)) (rText s).2) := by
  by_cases he : s.2 ≠ 0
  · rw [rText_err s he]
    have hs : (s.2 != 0) = true := by simp [he]
    clear he
    go_enter Tryd.func65, Tryd.ntmps65
    go_wp2_with fail
    refine (none_any base rb s _ h).mono ?_
    rw [hs]
    rintro e w' ⟨rfl, rfl⟩
    go_wp2_with fail
    go_ret
    exact ⟨rfl, h, World.grownBy.refl _ _⟩
  · obtain ⟨xs, e0⟩ := s
    obtain rfl : e0 = 0 := by simpa using he
    clear he
    have hH := hid h
    obtain ⟨h1, A, n, c, h2, h3, h4⟩ := h
    have c0 : w.cell? ⟨rb, 0, none⟩ = some (.slice A n c) := by simp [World.cell?, h2]
    have c1 : w.cell? ⟨rb, 1, none⟩ = some (.int .i64 0) := by simp [World.cell?, h2]
    have f0 : ∀ i, w.frozen? ⟨rb, i, none⟩ = false := fun i => by simp [World.frozen?, h2]
    have f00 := f0 0
    have f01 := f0 1
    rcases hnum : numL xs with ⟨nn, k, e⟩
    obtain ⟨q1, q2, q3, q4⟩ := rText_cases xs nn k e hnum
    have hle := fun h0 : e = 0 => numL_le xs nn k (by rw [hnum, h0])
    have HNUM := hid hnum
    have H2 := hid h2; have H3 := hid h3; have H4 := hid h4
    have hc := h3.cap; have hm := h3.max
    rw [h3.len] at q3 q4
    clear h2 h3 h4 f0 hnum
    by_cases ce : e = 0
    · subst ce
      obtain ⟨hk1, hk2, hk3⟩ := hle rfl
      rw [H3.out.len] at hk1
      clear hle q1
      by_cases cm : 1048576 < nn
      · have F := hid (q2 rfl cm); clear q2 q3 q4
        go_enter Tryd.func65, Tryd.ntmps65
        go_wp2_with fail
        refine (none_any base rb (xs, 0) _ hH.out).mono ?_
        rintro e w' ⟨rfl, rfl⟩
        go_wp2_with fail
        refine (number_any A n c xs _ H3.out).mono ?_
        rw [HNUM.out]
        rintro e w' ⟨rfl, hw⟩
        have hw := hw.symm; subst hw
        go_wp2_with fail
        go_ret
        rw [F.out]
        exact ⟨rfl, hH.out.setE 21, grown_set w rb 1 _⟩
      have cm' : nn ≤ 1048576 := by omega
      clear q2
      by_cases c3 : n - k < nn
      · have F := hid (q3 rfl cm' c3); clear q3 q4
        have c3x : (n : Int) - k < nn := by omega
        go_enter Tryd.func65, Tryd.ntmps65
        go_wp2_with fail
        refine (none_any base rb (xs, 0) _ hH.out).mono ?_
        rintro e w' ⟨rfl, rfl⟩
        go_wp2_with fail
        refine (number_any A n c xs _ H3.out).mono ?_
        rw [HNUM.out]
        rintro e w' ⟨rfl, hw⟩
        have hw := hw.symm; subst hw
        go_wp2_with fail
        go_ret
        rw [F.out]
        exact ⟨rfl, hH.out.setE 20, grown_set w rb 1 _⟩
      have c3' : nn ≤ n - k := by omega
      have F := hid (q4 rfl cm' c3'); clear q3 q4
      have c3x : ¬ (n : Int) - k < nn := by omega
      have hcut := run_cut_l (P := Tryd.prog) 31 5 Tryd.underlying31 (info_parts info_u8).choose_spec.1 (info_parts info_u8).choose_spec.2.2.1 A n c .i64 ((k : Int) + nn) (by omega) (by omega)
      have hcut2 := run_cut_lh (P := Tryd.prog) 31 5 Tryd.underlying31 (info_parts info_u8).choose_spec.1 (info_parts info_u8).choose_spec.2.2.1 A n c .i64 .i64 (k : Int) ((k : Int) + nn) (by omega) (by omega) (by omega)
      rw [show ((k : Int) + nn).toNat = k + nn by omega] at hcut hcut2
      rw [Int.toNat_natCast, show k + nn - k = nn by omega] at hcut2
      have hd := hid (H3.out.drop (k + nn) (by omega))
      have hd2 := hid (H3.out.cut k nn (by omega))
      have hAm : ∀ m a, cutA A c m 1 = some a → base ≤ a.block ∧ a.block ≠ rb := fun m a ha => by
        unfold cutA at ha
        split at ha
        · exact H4.out a ha
        · rcases A with _ | a0
          · cases ha
          · simp only [Option.map_some, Option.some.injEq] at ha
            subst ha
            have := H4.out a0 rfl
            unfold Addr.add
            split <;> exact this
      have HA := hid (hAm (k + nn)); have HA2 := hid (hAm k); clear hAm
      generalize cutA A c (k + nn) 1 = A2 at *
      generalize cutA A c k 1 = A3 at *
      have hs3 := run_string (P := Tryd.prog) 31 9 5 Tryd.underlying31 Tryd.underlying5 Tryd.underlying9
        (hd2.out.move (w' := w.setCell ⟨rb, 1, none⟩ (.int .i64 0)) fun a ha => Below.heap_setCell _ _ _ _ (HA2.out a ha).2)
      go_enter Tryd.func65, Tryd.ntmps65
      go_wp2_with fail
      refine (none_any base rb (xs, 0) _ hH.out).mono ?_
      rintro e w' ⟨rfl, rfl⟩
      go_wp2_with fail
      refine (number_any A n c xs _ H3.out).mono ?_
      rw [HNUM.out]
      rintro e w' ⟨rfl, hw⟩
      have hw := hw.symm; subst hw
      go_wp2_with fail
      go_ret
      rw [F.out]
      exact ⟨rfl, RdrAt.set (s := (xs, 0)) h1 H2.out HA.out hd.out, grown_trans (grown_set w rb 1 _) (grown_set _ rb 0 _)⟩
    · have F := hid (q1 ce); clear q1 q2 q3 q4 hle
      have he : ((e : Int) == 0) = false := by simp; omega
      have he' : ((e : Int) != 0) = true := by rw [bne_iff_ne]; omega
      clear ce
      go_enter Tryd.func65, Tryd.ntmps65
      go_wp2_with fail
      refine (none_any base rb (xs, 0) _ hH.out).mono ?_
      rintro e w' ⟨rfl, rfl⟩
      go_wp2_with fail
      refine (number_any A n c xs _ H3.out).mono ?_
      rw [HNUM.out]
      rintro e w' ⟨rfl, hw⟩
      have hw := hw.symm; subst hw
      go_wp2_with fail
      go_ret
      rw [F.out]
      exact ⟨rfl, hH.out.setE _, grown_set w rb 1 _⟩

theorem Left_r (base rb : Nat) (s : Rst) (w : World) (h : RdrAt w base rb s) :
    Calls Tryd.prog 25 #[.pointer (some ⟨rb, 0, none⟩)] w fun e w' => e = .returned (.int .i64 (s.1.length : Int)) ∧ w = w' := by
  obtain ⟨h1, A, n, c, h2, h3, h4⟩ := h
  have c0 : w.cell? ⟨rb, 0, none⟩ = some (.slice A n c) := by simp [World.cell?, h2]
  have hl := hid h3.len
  clear h2 h3 h4
  go_enter Tryd.func25, Tryd.ntmps25
  go_wp2
  go_ret
  exact ⟨ret_int (by rw [hl.out]), rfl⟩

theorem Err_r (base rb : Nat) (s : Rst) (w : World) (h : RdrAt w base rb s) :
    Calls Tryd.prog 27 #[.pointer (some ⟨rb, 0, none⟩)] w fun e w' => e = .returned (.int .i64 s.2) ∧ w = w' := by
  obtain ⟨h1, A, n, c, h2, h3, h4⟩ := h
  have c1 : w.cell? ⟨rb, 1, none⟩ = some (.int .i64 s.2) := by simp [World.cell?, h2]
  have c2 : w.cell? ⟨rb, 2, none⟩ = some (.bool true) := by simp [World.cell?, h2]
  clear h2 h3 h4
  generalize s.2 = e at *
  go_enter Tryd.func27, Tryd.ntmps27
  go_wp2
  go_ret
  exact ⟨rfl, rfl⟩

theorem Done_r (base rb : Nat) (s : Rst) (w : World) (h : RdrAt w base rb s) :
    Calls Tryd.prog 34 #[.pointer (some ⟨rb, 0, none⟩)] w fun e w' => e = .returned (.int .i64 (rDone s)) ∧ w = w' := by
  have H := hid h
  obtain ⟨h1, A, n, c, h2, h3, h4⟩ := h
  have c1 : w.cell? ⟨rb, 1, none⟩ = some (.int .i64 s.2) := by simp [World.cell?, h2]
  have c2 : w.cell? ⟨rb, 2, none⟩ = some (.bool true) := by simp [World.cell?, h2]
  clear h2 h3 h4
  by_cases he : s.2 = 0
  · have hb1 : (s.2 == 0) = true := by simp [he]
    by_cases hl : 0 < s.1.length
    · have F := hid (show rDone s = 21 by unfold rDone; rw [if_pos ⟨he, hl⟩])
      clear he
      generalize s.2 = e at *
      have hl1 : (0 : Int) < (s.1.length : Int) := by omega
      go_enter Tryd.func34, Tryd.ntmps34
      go_wp2_with fail
      refine (Left_r base rb s _ H.out).mono ?_
      rintro e w' ⟨rfl, rfl⟩
      go_wp2_with fail
      go_ret
      exact ⟨ret_int F.out.symm, rfl⟩
    · have F := hid (show rDone s = s.2 by unfold rDone; rw [if_neg (fun q => hl q.2)])
      clear he
      generalize hx : s.2 = e at *
      clear hx
      have hl1 : ¬ (0 : Int) < (s.1.length : Int) := by omega
      go_enter Tryd.func34, Tryd.ntmps34
      go_wp2_with fail
      refine (Left_r base rb s _ H.out).mono ?_
      rintro e w' ⟨rfl, rfl⟩
      go_wp2_with fail
      go_ret
      exact ⟨ret_int F.out.symm, rfl⟩
  · have F := hid (show rDone s = s.2 by unfold rDone; rw [if_neg (fun q => he q.1)])
    have hb1 : (s.2 == 0) = false := by simp [he]
    clear he
    generalize hx : s.2 = e at *
    clear hx
    go_enter Tryd.func34, Tryd.ntmps34
    go_wp2_with fail
    go_ret
    exact ⟨ret_int F.out.symm, rfl⟩
end Go.Proofs.YtnakanophilfhaaDoor
