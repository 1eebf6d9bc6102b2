/- wire: Unframe. -/
import Derived.Test.YtcociocgoiofgaaWire4
import Derived.Deep.RegionWith
namespace Go.Proofs.Ytcociocgoiofgaa
open Go.RowKit Go.Dio
set_option linter.unusedVariables false
set_option linter.unusedSimpArgs false

/-- The cases of 'unfL'. -/
theorem unfL_cases (xs : List UInt8) (h : 0 < xs.length) :
    (gb xs 0 ≠ 93 → unfL xs = ([], 0, 21)) ∧ (gb xs 0 = 93 → ∀ n k e, numL (xs.drop 1) = (n, k, e) →
      (e ≠ 0 → unfL xs = ([], 0, e)) ∧ (e = 0 → 1048576 < n → unfL xs = ([], 0, 21)) ∧ (e = 0 → n ≤ 1048576 → xs.length - (1 + k) < n + 4 → unfL xs = ([], 0, 20)) ∧
      (e = 0 → n ≤ 1048576 → n + 4 ≤ xs.length - (1 + k) → fourB (crc ((xs.drop (1 + k)).take n)) ≠ ((xs.drop (1 + k)).drop n).take 4 → unfL xs = ([], 0, 22)) ∧
      (e = 0 → n ≤ 1048576 → n + 4 ≤ xs.length - (1 + k) → fourB (crc ((xs.drop (1 + k)).take n)) = ((xs.drop (1 + k)).drop n).take 4 → unfL xs = ((xs.drop (1 + k)).take n, 1 + k + n + 4, 0))) := by
  rcases xs with _ | ⟨c, t⟩
  · simp at h
  have hz : c.toNat = 93 ↔ c = 93 := ⟨fun h => UInt8.toNat_inj.1 (by simpa using h), fun h => by subst h; rfl⟩
  simp only [gb, List.getD_cons_zero, List.drop_succ_cons, List.drop_zero, List.length_cons, unfL]
  refine ⟨fun h => ?_, fun h n k e hn => ?_⟩
  · rw [if_pos (fun q => h (by have := hz.2 q; omega))]
  · have hc := hz.1 (by omega)
    rw [if_neg (by simp [hc]), hn]
    have hd : ∀ m, List.drop (1 + m) (c :: t) = t.drop m := fun m => by rw [Nat.add_comm, List.drop_succ_cons]
    simp only [hd, List.length_drop]
    refine ⟨fun h1 => ?_, fun h1 h2 => ?_, fun h1 h2 h3 => ?_, fun h1 h2 h3 h4 => ?_, fun h1 h2 h3 h4 => ?_⟩
    · rw [if_pos h1]
    · rw [if_neg (by omega), if_pos h2]
    · rw [if_neg (by omega), if_neg (by omega), if_pos (by omega)]
    · rw [if_neg (by omega), if_neg (by omega), if_neg (by omega), if_pos h4]
    · rw [if_neg (by omega), if_neg (by omega), if_neg (by omega), if_neg (by rw [h4]; simp)]
/-- A number's bytes are there. -/
theorem numL_le (xs : List UInt8) (n k : Nat) (h : numL xs = (n, k, 0)) : k ≤ xs.length ∧ k ≤ 7 ∧ n < 281474976710656 := by
  rcases xs with _ | ⟨c, t⟩
  · simp [numL] at h
  · simp only [numL] at h
    split at h
    · simp at h
    split at h
    · simp at h
    split at h
    · simp at h
    · simp only [Prod.mk.injEq, and_true] at h
      obtain ⟨rfl, rfl⟩ := h
      have h1 := be_lt (t.take c.toNat)
      have h2 : (t.take c.toNat).length ≤ 6 := by rw [List.length_take]; omega
      have h3 := Nat.pow_le_pow_right (show 0 < 256 by omega) h2
      refine ⟨by simp; omega, by omega, by omega⟩

set_option maxRecDepth 100000 in
set_option maxHeartbeats 1000000 in
theorem Unframe_any (A : Option Addr) (n c : Nat) (xs : List UInt8) (w : World) (h : IsB w A n c xs) :
    Calls Try.prog 20 #[.slice A n c] w (OutB3 5 w (unfL xs).1 (unfL xs).2.1 (unfL xs).2.2) := by
  have hc := h.cap
  have hm := h.max
  by_cases c0 : n = 0
  · have F := hid (show unfL xs = ([], 0, 20) by
      have hx : xs = [] := List.eq_nil_of_length_eq_zero (by rw [h.len, c0])
      rw [hx]; rfl)
    subst c0
    clear h
    go_enter Try.func20, Try.ntmps20
    go_wp2
    go_ret3
    rw [F.out]
    exact OutB3.nil _ _ _ _
  obtain ⟨b, o, rfl, hcell⟩ := h.some (by omega)
  obtain ⟨f1, f2⟩ := unfL_cases xs (by rw [h.len]; omega)
  have h0 : w.cell? ⟨b, o, none⟩ = some (.int .u8 (gb xs 0)) := hcell 0 (by omega)
  have kl := gb_lo xs 0
  have kh := gb_hi xs 0
  have hn0 : 0 < n := by omega
  have hn1 : ((n : Int) == 0) = false := by simp; omega
  clear hcell
  generalize hk0 : gb xs 0 = k0 at *
  have HK0 := hid hk0; clear hk0
  have HH := hid h; clear h
  by_cases c1 : k0 = 93
  · have f3 := hid (f2 c1); clear f1 f2
    have hp1 : (k0 == 93) = true := by simp [c1]
    have hp2 : (k0 != 93) = false := by simp [c1]
    clear c1
    have hcut := run_cut_l (P := Try.prog) 22 5 Try.underlying22 (info_parts info_u8).choose_spec.1 (info_parts info_u8).choose_spec.2.2.1 (some ⟨b, o, none⟩) n c .i64 1 (by omega) (by omega)
    have hd := HH.out.drop 1 (by omega)
    rw [show (1 : Int).toNat = 1 from rfl] at hcut
    generalize cutA (some ⟨b, o, none⟩) c 1 1 = A1 at *
    go_enter Try.func20, Try.ntmps20
    go_wp2_with (go_at_call 97; refine (number_any _ _ _ (xs.drop 1) _ hd).mono ?_)
    rintro e w1 ⟨rfl, rfl⟩
    rcases hnum : numL (xs.drop 1) with ⟨nn, k, e⟩
    obtain ⟨q1, q2, q3, q4, q5⟩ := f3.out nn k e hnum
    have hle := numL_le (xs.drop 1) nn k
    have HNUM := hid hnum; clear hnum f3 hd hcut
    by_cases ce : e = 0
    · subst ce
      obtain ⟨hk1, hk2, hk3⟩ := hle HNUM.out
      rw [List.length_drop, HH.out.len] at hk1
      have hxl := HH.out.len
      rw [hxl] at q3 q4 q5
      have HXL := hid hxl; clear hxl hle q1
      have hbt : (((0 : Nat) : Int) == 0) = true := rfl
      by_cases c2 : 1048576 < nn
      · have F := hid (q2 rfl c2); clear q2 q3 q4 q5
        go_wp2_with fail
        go_ret3
        rw [F.out]
        exact OutB3.nil _ _ _ _
      have c2' : nn ≤ 1048576 := by omega
      clear q2
      have hcut2 := run_cut_l (P := Try.prog) 22 5 Try.underlying22 (info_parts info_u8).choose_spec.1 (info_parts info_u8).choose_spec.2.2.1 (some ⟨b, o, none⟩) n c .i64 (1 + (k : Int)) (by omega) (by omega)
      have hd2 := HH.out.drop (1 + k) (by omega)
      rw [show (1 + (k : Int)).toNat = 1 + k by omega] at hcut2
      generalize cutA (some ⟨b, o, none⟩) c (1 + k) 1 = A2 at *
      have hr1 : n - (1 + k) ≤ c - (1 + k) := by omega
      by_cases c3 : n - (1 + k) < nn + 4
      · have F := hid (q3 rfl c2' c3); clear q3 q4 q5
        go_wp2_with fail
        go_ret3
        rw [F.out]
        exact OutB3.nil _ _ _ _
      have c3' : nn + 4 ≤ n - (1 + k) := by omega
      have Q4 := hid (q4 rfl c2' c3')
      have Q5 := hid (q5 rfl c2' c3')
      clear q3 q4 q5
      have hcut3 := run_cut_h (P := Try.prog) 22 5 Try.underlying22 (info_parts info_u8).choose_spec.1 (info_parts info_u8).choose_spec.2.2.1 A2 (n - (1 + k)) (c - (1 + k)) .i64 (nn : Int) (by omega) (by omega)
      have hcut4 := run_cut_lh (P := Try.prog) 22 5 Try.underlying22 (info_parts info_u8).choose_spec.1 (info_parts info_u8).choose_spec.2.2.1 A2 (n - (1 + k)) (c - (1 + k)) .i64 .i64 (nn : Int) ((nn : Int) + 4) (by omega) (by omega) (by omega)
      have hb1 := hd2.take nn (by omega)
      have hb2 := hd2.cut nn 4 (by omega)
      rw [Int.toNat_natCast] at hcut3
      rw [show (nn : Int).toNat = nn by omega, show ((nn : Int) + 4).toNat = nn + 4 by omega, show nn + 4 - nn = 4 by omega] at hcut4
      generalize cutA A2 (c - (1 + k)) 0 1 = A3 at *
      generalize cutA A2 (c - (1 + k)) nn 1 = A4 at *
      have hw : IntKind.i64.wrap ((nn : Int) + 4) = (nn : Int) + 4 := IntWalk.i64_in _ (by omega)
      have HB1 := hid hb1; have HB2 := hid hb2; clear hb1 hb2 hd2
      have hcl := crc_lt ((xs.drop (1 + k)).take nn)
      have HF := hid hcl
      go_wp2_with fail
      go_region_with (first | (go_at_call 41; refine (sum_any _ _ _ _ _ (HB1.out.below ((Below.refl _ _).drew))).mono ?_; rintro e w' ⟨rfl, rfl⟩) | (go_at_call 99; refine (four_any _ _ HF.out).mono ?_; rintro e w' ⟨v3, rfl, ho3, hb3⟩; obtain ⟨A5, n5, c5, rfl, h5, -⟩ := ho3.form) | (go_at_call 98; refine (equal_r _ _ _ _ _ _ _ _ _ h5 (HB2.out.below (below_then ((Below.refl _ w1).drew) hb3))).mono ?_; rintro e w2 ⟨r, rfl, hr, hdr⟩))
      have hB1 := below_then (below_then ((Below.refl _ w1).drew) hb3) hdr.below
      have HBB := hid hB1
      clear hb3 ho3 h5 hdr hB1 hcl hcut2 hcut4
      cases r with
      | true =>
        have F := hid (Q5.out (of_decide_eq_true hr.out.symm))
        go_wp2_with (go_at_call 100; refine (clone_any _ _ _ _ _ (HB1.out.below HBB.out) (by omega)).mono ?_)
        rintro e w3 ⟨v3, rfl, ho3, hb3⟩
        go_wp2_with fail
        go_ret3
        rw [F.out]
        refine ⟨_, ?_, ho3.lower HBB.out.size, below_then HBB.out hb3⟩
        exact ret3v rfl (by show (1 : Int) + k + nn + 4 = ((1 + k + nn + 4 : Nat) : Int); omega) rfl
      | false =>
        have F := hid (Q4.out (of_decide_eq_false hr.out.symm))
        go_wp2_with fail
        go_ret3
        rw [F.out]
        exact ⟨_, rfl, OwnB.nil _ _ _, HBB.out⟩
    · have F := hid (q1 ce); clear q1 q2 q3 q4 q5 hle
      have he : ((e : Int) == 0) = false := by simp; omega
      have he' : ((e : Int) != 0) = true := by rw [bne_iff_ne]; omega
      go_wp2_with fail
      go_ret3
      rw [F.out]
      exact OutB3.nil _ _ _ _
  · have F := hid (f1 c1); clear f1 f2
    have hp1 : (k0 == 93) = false := by simp [c1]
    have hp2 : (k0 != 93) = true := by simp [c1]
    clear c1
    go_enter Try.func20, Try.ntmps20
    go_wp2
    go_ret3
    rw [F.out]
    exact OutB3.nil _ _ _ _
end Go.Proofs.Ytcociocgoiofgaa
