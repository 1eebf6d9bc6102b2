/- The document's layer 1: Unframe. -/
import Derived.Test.YtcociocgoiofgaaRef1
namespace Go.Proofs.Ytcociocgoiofgaa
open Go.RowKit Go.Dio
set_option linter.unusedVariables false
set_option linter.unusedSimpArgs false

theorem be_four (l : List UInt8) (k : Nat) (hl : l.length = 4) (hk : k < 4294967296) : be l = k ↔ fourB k = l := by
  match l, hl with
  | [a, b, c, d], _ =>
    have ha := a.toNat_lt; have hb := b.toNat_lt; have hc := c.toNat_lt; have hd := d.toNat_lt
    simp only [be, List.foldl_cons, List.foldl_nil, fourB, List.cons.injEq, and_true]
    have q : ∀ (x : Nat) (y : UInt8), UInt8.ofNat x = y ↔ x % 256 = y.toNat := fun x y => by
      rw [← UInt8.toNat_inj, UInt8.toNat_ofNat']
    rw [q, q, q, q]
    omega

set_option maxRecDepth 100000 in
set_option maxHeartbeats 1000000 in
theorem rUnframe_any (A : Option Addr) (n c : Nat) (xs : List UInt8) (w : World) (h : IsB w A n c xs) (hn47 : n ≤ 140737488355328) :
    Calls Try.prog 21 #[.slice A n c] w (OutB3 5 w (unfL xs).1 (unfL xs).2.1 (unfL xs).2.2) := by
  have hc := h.cap
  have hm := h.max
  by_cases c0 : n = 0
  · have F := hid (show unfL xs = ([], 0, 20) by
      have hx : xs = [] := List.eq_nil_of_length_eq_zero (by rw [h.len, c0])
      rw [hx]; rfl)
    subst c0
    clear h
    go_enter Try.func21, Try.ntmps21
    go_wp2
    go_ret3
    rw [F.out]
    exact OutB3.nil _ _ _ _
  obtain ⟨b, o, rfl, hcell⟩ := h.some (by omega)
  obtain ⟨f1, f2⟩ := unfL_cases xs (by rw [h.len]; omega)
  have h0 : w.cell? ⟨b, o, none⟩ = some (.int .u8 (gb xs 0)) := hcell 0 (by omega)
  have HC := hid hcell
  have kl := gb_lo xs 0
  have kh := gb_hi xs 0
  have hn0 : 0 < n := by omega
  have hn1 : ((n : Int) == 0) = false := by simp; omega
  clear hcell
  generalize hk0 : gb xs 0 = k0 at *
  have HK0 := hid hk0; clear hk0
  have HH := hid h; clear h
  by_cases c1 : k0 = 93
  · have f3 := hid (f2 c1); clear f1 f2
    have hp1 : (k0 == 93) = true := by simp [c1]
    have hp2 : (k0 != 93) = false := by simp [c1]
    clear c1
    go_enter Try.func21, Try.ntmps21
    go_wp2_with (go_at_call 101; refine (rnumber_any _ _ _ xs 1 _ HH.out (by omega)).mono ?_)
    rintro e w1 ⟨rfl, rfl⟩
    rcases hnum : numL (xs.drop 1) with ⟨nn, k, e⟩
    obtain ⟨q1, q2, q3, q4, q5⟩ := f3.out nn k e hnum
    have hle := numL_le (xs.drop 1) nn k
    have HNUM := hid hnum; clear hnum f3
    by_cases ce : e = 0
    · subst ce
      obtain ⟨hk1, hk2, hk3⟩ := hle HNUM.out
      rw [List.length_drop, HH.out.len] at hk1
      have hxl := HH.out.len
      rw [hxl] at q3 q4 q5
      have HXL := hid hxl; clear hxl hle q1
      have hbt : (((0 : Nat) : Int) == 0) = true := rfl
      by_cases c2 : 1048576 < nn
      · have F := hid (q2 rfl c2); clear q2 q3 q4 q5
        go_wp2_with fail
        go_ret3
        rw [F.out]
        exact OutB3.nil _ _ _ _
      have c2' : nn ≤ 1048576 := by omega
      clear q2
      by_cases c3 : n - (1 + k) < nn + 4
      · have F := hid (q3 rfl c2' c3); clear q3 q4 q5
        have c3x : (n : Int) - (1 + (k : Int)) < nn + 4 := by omega
        go_wp2_with fail
        go_ret3
        rw [F.out]
        exact OutB3.nil _ _ _ _
      have c3' : nn + 4 ≤ n - (1 + k) := by omega
      have Q4 := hid (q4 rfl c2' c3')
      have Q5 := hid (q5 rfl c2' c3')
      clear q3 q4 q5
      have c3x : ¬ (n : Int) - (1 + (k : Int)) < nn + 4 := by omega
      have hcut4 := run_cut_lh (P := Try.prog) 22 5 Try.underlying22 (info_parts info_u8).choose_spec.1 (info_parts info_u8).choose_spec.2.2.1 (some ⟨b, o, none⟩) n c .i64 .i64 (1 + (k : Int)) (1 + (k : Int) + nn) (by omega) (by omega) (by omega)
      have hb2 := HH.out.cut (1 + k) nn (by omega)
      rw [show (1 + (k : Int)).toNat = 1 + k by omega, show (1 + (k : Int) + nn).toNat = 1 + k + nn by omega, show 1 + k + nn - (1 + k) = nn by omega] at hcut4
      generalize cutA (some ⟨b, o, none⟩) c (1 + k) 1 = A2 at *
      have HB2 := hid hb2; clear hb2
      go_wp2_with (at_builtin; refine wpList_append_b (w0 := w1) w1.heap.size rfl _ _ 22 5 rfl Try.underlying22 info_u8 _ nn [] _ A2 _ rfl rfl ?c1 (HB2.out.below (below_alloc1 w1 _)) ?c2 ?c3 ?c4 ?_)
      case c1 => exact OwnB.lit _ w1 _ [] (Nat.le_refl _) (by simp)
      case c2 => exact below_alloc1 w1 _
      case c3 => simp
      case c4 => simp; omega
      intro v2 w2 ho2 hb2 hg hat
      clear hg hat
      obtain ⟨A3, n3, c3, rfl, h3, -⟩ := ho2.form
      have HH3 := hid h3; clear h3
      have HC2 := hid (show ∀ i, i < n → w2.cell? ⟨b, o + i, none⟩ = some (.int .u8 (gb xs i)) from fun i hi => by
        have h5 := (HH.out.below hb2).some (by omega)
        obtain ⟨b5, o5, e5, h6⟩ := h5
        cases e5; exact h6 i hi)
      have h0' := HC2.out 0 (by omega)
      have hlen : 1 + k + nn + 4 ≤ n := by omega
      clear h0 h0' kl kh hn1 hp1 hp2 hcut4 c3x c3'
      have hdl : ((xs.drop (1 + k)).drop nn).length = n - (1 + k + nn) := by rw [List.length_drop, List.length_drop, HXL.out]; omega
      have hbt4 := hid (be_take ((xs.drop (1 + k)).drop nn))
      have HDL := hid hdl; clear hdl
      go_wp2_with fail
      go_loop [10, 11] (fun v10 v11 => ∃ i : Nat, i ≤ 4 ∧ v11 = .int .i64 i ∧ v10 = .int .i64 (be (((xs.drop (1 + k)).drop nn).take i))) (fun _ v11 => 4 - (intOf v11).toNat)
      case atStart => exact ⟨0, by omega, rfl, rfl⟩
      case round =>
        obtain ⟨i, hi, rfl, rfl⟩ := hrel
        have hqb : be (((xs.drop (1 + k)).drop nn).take i) < 4294967296 := by
          have h1 := be_lt (((xs.drop (1 + k)).drop nn).take i)
          have h2 : (((xs.drop (1 + k)).drop nn).take i).length ≤ 4 := by rw [List.length_take]; omega
          have h3 := Nat.pow_le_pow_right (show 0 < 256 by omega) h2
          omega
        by_cases hlt : i < 4
        · have hc1 : w2.cell? ⟨b, o + (1 + k + nn + i), none⟩ = some (.int .u8 (gb xs (1 + k + nn + i))) := HC2.out _ (by omega)
          have g1 := gb_lo xs (1 + k + nn + i)
          have g2 := gb_hi xs (1 + k + nn + i)
          have hsn := hbt4.out i (by rw [HDL.out]; omega)
          rw [show gb ((xs.drop (1 + k)).drop nn) i = gb xs (1 + k + nn + i) by simp [gb, List.getD_eq_getElem?_getD, List.getElem?_drop, Nat.add_assoc]] at hsn
          have HS := hid hsn; clear hsn
          generalize gb xs (1 + k + nn + i) = g at *
          generalize be (((xs.drop (1 + k)).drop nn).take i) = q at *
          go_wp2_with fail
          go_round
          case rel => exact ⟨i + 1, by omega, by go_num, by rw [← HS.out]⟩
          case measure => simp [intOf]; omega
        · obtain rfl : i = 4 := by omega
          clear hlt hi
          have hcl := crc_lt ((xs.drop (1 + k)).take nn)
          have hbf := be_four (((xs.drop (1 + k)).drop nn).take 4) (crc ((xs.drop (1 + k)).take nn)) (by rw [List.length_take, HDL.out]; omega) hcl
          have HH4 := hid (show IsB w2 A3 n3 c3 ((xs.drop (1 + k)).take nn) from HH3.out)
          clear HH3
          have HO2 := hid ho2; clear ho2
          have HBF := hid hbf; clear hbf
          generalize hS : crc ((xs.drop (1 + k)).take nn) = s at *
          have HS := hid hS; clear hS
          generalize hQ : be (((xs.drop (1 + k)).drop nn).take 4) = q at *
          have HQ := hid hQ; clear hQ
          by_cases hqs : q = s
          · have F := hid (Q5.out (HBF.out.1 hqs))
            have hqb1 : ((q : Int) == (s : Int)) = true := by simp [hqs]
            have hqb2 : ((q : Int) != (s : Int)) = false := by simp [hqs]
            clear hqs
            go_wp2_with (go_at_call 42; refine (rSum_any _ _ _ _ _ HH4.out).mono ?_; rintro e w3 ⟨rfl, rfl⟩; rw [HS.out])
            go_ret3
            rw [F.out]
            exact ⟨_, ret3v rfl (by show (1 : Int) + k + nn + 4 = ((1 + k + nn + 4 : Nat) : Int); omega) rfl, HO2.out, hb2⟩
          · have F := hid (Q4.out (fun e => hqs (HBF.out.2 e)))
            have hqb1 : ((q : Int) == (s : Int)) = false := by simp; omega
            have hqb2 : ((q : Int) != (s : Int)) = true := by rw [bne_iff_ne]; omega
            clear hqs
            go_wp2_with (go_at_call 42; refine (rSum_any _ _ _ _ _ HH4.out).mono ?_; rintro e w3 ⟨rfl, rfl⟩; rw [HS.out])
            go_ret3
            rw [F.out]
            exact ⟨_, rfl, OwnB.nil _ _ _, hb2⟩
    · have F := hid (q1 ce); clear q1 q2 q3 q4 q5 hle
      have he : ((e : Int) == 0) = false := by simp; omega
      have he' : ((e : Int) != 0) = true := by rw [bne_iff_ne]; omega
      go_wp2_with fail
      go_ret3
      rw [F.out]
      exact OutB3.nil _ _ _ _
  · have F := hid (f1 c1); clear f1 f2
    have hp1 : (k0 == 93) = false := by simp [c1]
    have hp2 : (k0 != 93) = true := by simp [c1]
    clear c1
    go_enter Try.func21, Try.ntmps21
    go_wp2
    go_ret3
    rw [F.out]
    exact OutB3.nil _ _ _ _
end Go.Proofs.Ytcociocgoiofgaa
