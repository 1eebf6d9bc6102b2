/- WireUnframes: the walk. -/
import Derived.Test.YtcociocgoiofgaaLaw1
namespace Go.Proofs.Ytcociocgoiofgaa
open Go.RowKit Go.Dio
set_option linter.unusedVariables false
set_option linter.unusedSimpArgs false

set_option maxRecDepth 100000 in
set_option maxHeartbeats 2000000 in
theorem WireUnframes_walk (A : Option Addr) (n c : Nat) (xs : List UInt8) (w : World) (h : IsB w A n c xs) :
    Calls Try.prog 3 #[.slice A n c] w fun e w' => e = .returned (.bool true) ∧ Below w.heap.size w w' := by
  have hc := h.cap
  have hm := h.max
  by_cases hn : 5000 < n
  · clear h
    go_enter Try.func3, Try.ntmps3
    go_wp2_with fail
    refine (knows1_any _).mono ?_
    rintro e w1 ⟨rfl, hb⟩
    go_wp2_with fail
    go_ret
    exact ⟨rfl, hb⟩
  have hn5 : n ≤ 5000 := by omega
  have HH := hid h; clear h hn
  go_enter Try.func3, Try.ntmps3
  go_wp2_with fail
  refine (Lent_any A n c xs _ HH.out (by omega)).mono ?_
  rintro e w1 ⟨g, cap, rfl, hL, hb1⟩
  have HL := hid hL; clear hL
  have hw01 := hid hb1.size
  rw [HH.out.len]
  have hLn := HL.out.isB
  rw [HH.out.len] at hLn
  obtain ⟨hl1, hg1, hg0⟩ := hLn
  have Hl1 := hid hl1; clear hl1
  go_wp2_with fail
  refine (Unframe_any _ _ _ xs _ Hl1.out).mono ?_
  rintro e w2 ⟨v2, rfl, ho2, hb2⟩
  go_wp2_with fail
  refine (rUnframe_any A n c xs _ (HH.out.below (below_then hb1 hb2)) (by omega)).mono ?_
  rintro e w3 ⟨v3, rfl, ho3, hb3⟩
  generalize (unfL xs).1 = zs at *
  generalize (unfL xs).2.1 = k at *
  generalize (unfL xs).2.2 = er at *
  obtain ⟨A2, n2, c2, rfl, h2, hA2⟩ := ho2.form
  obtain ⟨A3, n3, c3, rfl, h3, -⟩ := ho3.form
  have hB12 := below_then hb2 hb3
  have hB3 := below_then hb1 hB12
  have hs2 : (convert 22 9 (.slice A2 n2 c2)).run Try.prog w3 = .ok (.string (mkS zs)) w3 :=
    run_string (P := Try.prog) 22 9 5 Try.underlying22 Try.underlying5 Try.underlying9 (h2.below hb3)
  have hs3 : (convert 22 9 (.slice A3 n3 c3)).run Try.prog w3 = .ok (.string (mkS zs)) w3 :=
    run_string (P := Try.prog) 22 9 5 Try.underlying22 Try.underlying5 Try.underlying9 h3
  generalize mkS zs = S at *
  have HL3 := hid (owns_below HL.out hB12)
  have HB3 := hid hB3
  have HB12 := hid hB12
  have HO2 := hid (ho2.below hb3)
  clear hB3 hB12 ho2 ho3 h2 h3 hb1 hb2 hb3
  go_wp2_with fail
  refine (num1_any _ _).mono ?_
  rintro e w4 ⟨rfl, rfl⟩
  go_wp2_with fail
  refine (Stays_any g cap _ A n c xs _ (HH.out.below HB3.out) HL3.out (by omega)).mono ?_
  rintro e w5 ⟨rfl, hd5⟩
  have hb5 := hd5.below
  have HLW := hid (owns_below HL3.out hb5)
  have HOW := hid (HO2.out.below hb5)
  have HBW := hid (below_then HB3.out hb5)
  have hsz1 := hid (Nat.le_trans HB12.out.size hb5.size)
  have hgs := hid hg1
  clear hb5 hd5 hs2 hs3 hg1
  have hn2 := HOW.out.len
  have hn2m : n2 ≤ 9223372036854775807 := by
    obtain ⟨_, _, _, e, q, -⟩ := HOW.out.form
    cases e
    exact Nat.le_trans q.cap q.max
  have HN2 := hid hn2; clear hn2
  go_wp2_with fail
  go_loopw [11] (fun v11 wr => ∃ (i : Nat) (ys : List UInt8), i ≤ n2 ∧ v11 = .int .i64 i ∧ OwnB 5 wr w1.heap.size (.slice A2 n2 c2) ys ∧ Below w1.heap.size w5 wr) (fun v11 _ => n2 - (intOf v11).toNat)
  case atStart => exact ⟨0, zs, by omega, rfl, HOW.out, Below.refl _ _⟩
  case round =>
    obtain ⟨i, ys, hi, rfl, ho, hb⟩ := hrel
    by_cases hlt : i < n2
    · obtain ⟨g2, rfl, hg2, hg2l, hnc, hcm2, hyl, hcell, hfz, hset⟩ := ho.at2 (by omega)
      have hc1 := hcell i hlt
      have hf1 := hfz i
      have gl := gb_lo ys i
      have gh := gb_hi ys i
      obtain ⟨o1, g1⟩ := hset i (UInt8.ofNat ((gb ys i + 1) % 256).toNat)
      have hv : ((UInt8.ofNat ((gb ys i + 1) % 256).toNat).toNat : Int) = (gb ys i + 1) % 256 := by rw [UInt8.toNat_ofNat']; omega
      rw [hv] at o1 g1
      clear hv
      have HO1 := hid o1; have HG1 := hid g1
      clear hcell hfz hset o1 g1 ho
      generalize gb ys i = p at *
      go_wp2_with fail
      go_roundw
      case rel => exact ⟨i + 1, _, by omega, by go_num, HO1.out, hb.setCell hg2 _⟩
      case measure => simp [intOf]; omega
    · have hbw := hid (show Below w.heap.size w wr from HBW.out.trans (hb.mono hw01.out))
      have hlw := hid (show LentB wr w.heap.size g cap xs from OwnB.keep HLW.out hb hgs.out)
      clear ho hb
      go_wp2_with fail
      refine (Stays_any g cap _ A n c xs _ (HH.out.below hbw.out) hlw.out (by omega)).mono ?_
      rintro e w6 ⟨rfl, hd6⟩
      have hb6 := hid (below_then hbw.out hd6.below)
      clear hd6
      go_wp2_with fail
      refine (knows1_any _).mono ?_
      rintro e w7 ⟨rfl, hb7⟩
      have hb7' := hid (below_then hb6.out hb7)
      clear hb7
      go_wp2_with fail
      go_ret
      exact ⟨rfl, hb7'.out⟩
theorem WireUnframes_row (A : Option Addr) (n c : Nat) (xs : List UInt8) (w : World) (h : IsB w A n c xs) (_hn : n ≤ 140737488351232) :
    Calls Try.prog 3 #[.slice A n c] w fun e w' => e = .returned (.bool true) ∧ Below w.heap.size w w' := WireUnframes_walk A n c xs w h
end Go.Proofs.Ytcociocgoiofgaa
