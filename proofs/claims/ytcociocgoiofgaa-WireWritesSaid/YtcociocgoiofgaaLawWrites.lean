/- WireWrites: the walk. -/
import Derived.Test.YtcociocgoiofgaaLaw1
import Derived.Test.YtcociocgoiofgaaWireAll
import Derived.Deep.RegionWith
namespace Go.Proofs.Ytcociocgoiofgaa
open Go.RowKit Go.Dio
set_option linter.unusedVariables false
set_option linter.unusedSimpArgs false

set_option maxRecDepth 100000 in
set_option maxHeartbeats 40000000 in
theorem WireWrites_walk (k : Int) (s : ByteArray) (A : Option Addr) (n c : Nat) (xs : List UInt8) (w : World) (h : IsB w A n c xs) (hn : n ≤ 140737488351232) :
    Calls Try.prog 6 #[.int .i64 k, .string s, .slice A n c] w fun e w' => e = .returned (.bool true) ∧ Below w.heap.size w w' := by
  have hc := h.cap
  have hm := h.max
  have HH := hid h
  have hLen := hid h.len
  clear h
  go_enter Try.func6, Try.ntmps6
  go_wp2_with fail
  refine (Lent_any A n c xs _ HH.out (by omega)).mono ?_
  rintro e w1 ⟨g, cap, rfl, hL, hb1⟩
  have HL := hid hL
  have HB1 := hid hb1
  have Hl1 := hid hL.isB.1
  clear hL hb1
  rw [hLen.out] at Hl1 ⊢
  go_wp2_with fail
  refine (Num_all k _).mono ?_
  rintro e w2 ⟨v2, rfl, ho2, hb2⟩
  obtain ⟨A2, n2, c2, rfl, h2, -⟩ := ho2.form
  have H2 := hid h2
  have HB2 := hid hb2
  clear h2 ho2 hb2
  go_wp2_with fail
  refine (Text_all s _).mono ?_
  rintro e w3 ⟨v3, rfl, ho3, hb3⟩
  obtain ⟨A3, n3, c3, rfl, h3, -⟩ := ho3.form
  have H3 := hid h3
  have HB3 := hid hb3
  clear h3 ho3 hb3
  go_wp2_with fail
  refine (rNum_all k _).mono ?_
  rintro e w4 ⟨v4, rfl, ho4, hb4⟩
  obtain ⟨A4, n4, c4, rfl, h4, -⟩ := ho4.form
  have H4 := hid h4
  have HB4 := hid hb4
  have hl4 := hid h4.len
  clear h4 ho4 hb4
  go_wp2_with fail
  refine (rText_all s _).mono ?_
  rintro e w5 ⟨v5, rfl, ho5, hb5⟩
  obtain ⟨A5, n5, c5, rfl, h5, -⟩ := ho5.form
  have hl5 := hid h5.len
  have hs2 : (convert 22 9 (.slice A2 n2 c2)).run Try.prog w5 = .ok (.string (mkS (pnum k).1)) w5 :=
    run_string (P := Try.prog) 22 9 5 Try.underlying22 Try.underlying5 Try.underlying9 (((H2.out.below HB3.out).below HB4.out).below hb5)
  have hs3 : (convert 22 9 (.slice A3 n3 c3)).run Try.prog w5 = .ok (.string (mkS (ptext s).1)) w5 :=
    run_string (P := Try.prog) 22 9 5 Try.underlying22 Try.underlying5 Try.underlying9 ((H3.out.below HB4.out).below hb5)
  have hs4 : (convert 22 9 (.slice A4 n4 c4)).run Try.prog w5 = .ok (.string (mkS (pnum k).1)) w5 :=
    run_string (P := Try.prog) 22 9 5 Try.underlying22 Try.underlying5 Try.underlying9 (H4.out.below hb5)
  have hs5 : (convert 22 9 (.slice A5 n5 c5)).run Try.prog w5 = .ok (.string (mkS (ptext s).1)) w5 :=
    run_string (P := Try.prog) 22 9 5 Try.underlying22 Try.underlying5 Try.underlying9 h5
  have HB15 := hid (below_then (below_then (below_then HB2.out HB3.out) HB4.out) hb5)
  have HB5 := hid (below_then HB1.out HB15.out)
  clear h5 ho5 hb5 H2 H3 H4 HB2 HB3 HB4
  have por := pnum_or k
  have tor := ptext_or s
  generalize hp1 : (pnum k).1 = ps at *
  generalize hp2 : (pnum k).2 = pe at *
  generalize ht1 : (ptext s).1 = ts at *
  generalize ht2 : (ptext s).2 = te at *
  clear hp1 hp2 ht1 ht2
  generalize mkS ps = PS at *
  generalize mkS ts = TS at *
  have HLw := hid (show LentB w5 w.heap.size g cap xs from owns_below HL.out HB15.out)
  have Hlw := hid (Hl1.out.below HB15.out)
  have HA5 := hid (HH.out.below HB5.out)
  clear HL Hl1 HB15 HB1 HH
  have key : (pe = 0 ∧ 0 < n4 ∧ ((n4 : Int) == 0) = false) ∨ (pe = 30 ∧ n4 = 0) := by
    have := hl4.out
    rcases por with ⟨h1, h2⟩ | ⟨h1, h2⟩
    · exact .inl ⟨h1, by omega, by simp; omega⟩
    · exact .inr ⟨h1, by rw [← this, h2]; rfl⟩
  have key2 : (te = 0 ∧ 0 < n5 ∧ ((n5 : Int) == 0) = false) ∨ (te = 6 ∧ n5 = 0) := by
    have := hl5.out
    rcases tor with ⟨h1, h2⟩ | ⟨h1, h2⟩
    · exact .inl ⟨h1, by omega, by simp; omega⟩
    · exact .inr ⟨h1, by rw [← this, h2]; rfl⟩
  clear por tor hl4 hl5
  by_cases cF : 5000 < n
  · by_cases c20 : n ≤ 1048576
    · rcases key with ⟨rfl, q1, q2⟩ | ⟨rfl, rfl⟩ <;> rcases key2 with ⟨rfl, r1, r2⟩ | ⟨rfl, rfl⟩
      all_goals
        go_wp2_with (go_at_call 22; go_in)
        refine (Frame_ok _ _ _ _ _ Hlw.out c20).mono ?_
        rintro e w6 ⟨v6, rfl, ho6, hb6⟩
        have HLx := hid (show LentB w6 w.heap.size g cap xs from owns_below HLw.out hb6)
        have HAx := hid (HA5.out.below hb6)
        have HBx := hid (below_then HB5.out hb6)
        clear ho6 hb6
        go_wp2_with (go_at_call 22; go_in)
        refine (Stays_any g cap _ A n c xs _ HAx.out HLx.out (by omega)).mono ?_
        rintro e w7 ⟨rfl, hd7⟩
        have HBy := hid (below_then HBx.out hd7.below)
        clear hd7
        go_wp2_with fail
        refine (knows1_any _).mono ?_
        rintro e w8 ⟨rfl, hb8⟩
        have HBz := hid (below_then HBy.out hb8)
        clear hb8
        go_wp2_with fail
        go_ret
        exact ⟨rfl, HBz.out⟩
    · have c21 : 1048576 < n := by omega
      rcases key with ⟨rfl, q1, q2⟩ | ⟨rfl, rfl⟩ <;> rcases key2 with ⟨rfl, r1, r2⟩ | ⟨rfl, rfl⟩
      all_goals
        go_wp2_with (go_at_call 22; go_in)
        refine (Frame_no _ _ _ _ c21).mono ?_
        rintro e w6 ⟨rfl, rfl⟩
        go_wp2_with (go_at_call 22; go_in)
        refine (Stays_any g cap _ A n c xs _ HA5.out HLw.out (by omega)).mono ?_
        rintro e w7 ⟨rfl, hd7⟩
        have HBy := hid (below_then HB5.out hd7.below)
        clear hd7
        go_wp2_with fail
        refine (knows1_any _).mono ?_
        rintro e w8 ⟨rfl, hb8⟩
        have HBz := hid (below_then HBy.out hb8)
        clear hb8
        go_wp2_with fail
        go_ret
        exact ⟨ret_bool (by simp; omega), HBz.out⟩
  · have cF' : n ≤ 5000 := by omega
    rcases key with ⟨rfl, q1, q2⟩ | ⟨rfl, rfl⟩ <;> rcases key2 with ⟨rfl, r1, r2⟩ | ⟨rfl, rfl⟩
    all_goals
      go_wp2_with (go_at_call 22; go_in)
      refine (Frame_ok _ _ _ _ _ Hlw.out (by omega)).mono ?_
      rintro e w6 ⟨v6, rfl, ho6, hb6⟩
      obtain ⟨A6, n6, c6, rfl, h6, -⟩ := ho6.form
      have H6 := hid h6
      have HLx := hid (show LentB w6 w.heap.size g cap xs from owns_below HLw.out hb6)
      have HAx := hid (HA5.out.below hb6)
      have Hlx := hid (Hlw.out.below hb6)
      have HBx := hid (below_then HB5.out hb6)
      clear ho6 hb6 h6 hs2 hs3 hs4 hs5
      have hs6 := run_string (P := Try.prog) 22 9 5 Try.underlying22 Try.underlying5 Try.underlying9 (H6.out.below ((Below.refl _ _).drew))
      go_wp2_with fail
      go_region_with (first | (go_at_call 41; refine (sum_any _ _ _ _ _ (Hlx.out.below ((Below.refl _ _).drew))).mono ?_; rintro e w' ⟨rfl, rfl⟩) | (go_at_call 42; refine (rSum_any _ _ _ _ _ (HAx.out.below ((Below.refl _ _).drew))).mono ?_; rintro e w' ⟨rfl, rfl⟩) | (go_at_call 43; refine (rFrame_ok _ _ _ _ _ (HAx.out.below ((Below.refl _ _).drew)) (by omega)).mono ?_; rintro e w7 ⟨v7, rfl, ho7, hb7⟩; obtain ⟨A7, n7, c7, rfl, h7, -⟩ := ho7.form; have hs7 := run_string (P := Try.prog) 22 9 5 Try.underlying22 Try.underlying5 Try.underlying9 h7; have hs8 := run_string (P := Try.prog) 22 9 5 Try.underlying22 Try.underlying5 Try.underlying9 ((H6.out.below ((Below.refl _ _).drew)).below hb7); clear h7 ho7) | (go_at_call 22; refine (num1_any _ _).mono ?_; rintro e w' ⟨rfl, rfl⟩) | (go_at_call 23; refine (Stays_any g cap _ A n c xs _ (HAx.out.below (below_then ((Below.refl _ w6).drew) hb7)) (show LentB w7 w.heap.size g cap xs from owns_below HLx.out (below_then ((Below.refl _ w6).drew) hb7)) (by omega)).mono ?_; rintro e w9 ⟨rfl, hd9⟩) | (go_at_call 18; refine (knows1_any _).mono ?_; rintro e w10 ⟨rfl, hb10⟩))
      all_goals
        have HBz := hid (below_then (below_then (below_then HBx.out (below_then ((Below.refl _ w6).drew) hb7)) hd9.below) hb10)
        clear hb7 hd9 hb10
        go_wp2_with fail
        go_ret
        exact ⟨rfl, HBz.out⟩

theorem WireWrites_row (k : Int) (s : ByteArray) (A : Option Addr) (n c : Nat) (xs : List UInt8) (w : World) (_hk : (Lit.int .i64 k).wf = true) (_hs : s.size ≤ 140737488351232) (h : IsB w A n c xs) (hn : n ≤ 140737488351232) :
    Calls Try.prog 6 #[.int .i64 k, .string s, .slice A n c] w fun e w' => e = .returned (.bool true) ∧ Below w.heap.size w w' := WireWrites_walk k s A n c xs w h hn
end Go.Proofs.Ytcociocgoiofgaa
