/- The document's layer 1: Num, Text, Sum, Frame, number, Unframe. -/
import Derived.Test.YtcociocgoiofgaaWire5
namespace Go.Proofs.Ytcociocgoiofgaa
open Go.RowKit Go.Dio
set_option linter.unusedVariables false
set_option linter.unusedSimpArgs false

set_option maxRecDepth 100000 in
theorem rNum_no (n : Int) (w : World) (hn : n < 0 ∨ 281474976710655 < n) : Calls Try.prog 39 #[.int .i64 n] w fun e w' => e = .returned (.slice none 0 0) ∧ w' = w := by
  by_cases h : n < 0
  · clear hn
    go_enter Try.func39, Try.ntmps39
    go_wp2
    go_ret
    exact ⟨rfl, rfl⟩
  · have h2 : 281474976710655 < n := by omega
    clear hn
    go_enter Try.func39, Try.ntmps39
    go_wp2
    go_ret
    exact ⟨rfl, rfl⟩

set_option maxRecDepth 100000 in
set_option maxHeartbeats 1000000 in
theorem rNum_ok (k : Nat) (w : World) (hk : k < 281474976710656) : Calls Try.prog 39 #[.int .i64 k] w (OutB 5 w (numB k)) := by
  have h1 : ¬ (k : Int) < 0 := by omega
  have h2 : (k : Int) ≤ 281474976710655 := by omega
  have hl6 := encN_len 6 k (by omega)
  go_enter Try.func39, Try.ntmps39
  go_wp2
  go_loopw [0, 3] (fun v0 v3 wr => ∃ (m : Nat) (xs : List UInt8), m < 281474976710656 ∧ v0 = .int .i64 m ∧ Hid (encN k = encN m ++ xs) ∧ OwnB 5 wr w.heap.size v3 xs ∧ Below w.heap.size w wr) (fun v0 _ _ => (intOf v0).toNat)
  case atStart => exact ⟨k, [], hk, rfl, hid (by simp), OwnB.nil _ _ _, Below.refl _ _⟩
  case round =>
    obtain ⟨m, xs, hm, rfl, he, ho, hb⟩ := hrel
    obtain ⟨A1, n1, c1, rfl, h3, h4⟩ := ho.form
    have hsz := hb.size
    have hl := h3.len
    have hx6 : n1 ≤ 6 := by
      have := congrArg List.length he.out
      rw [List.length_append] at this; omega
    have HL := hid hl; clear hl
    by_cases hm0 : 0 < m
    · have hmi : 0 < (m : Int) := by omega
      go_wp2_with (at_builtin; refine wpList_append_b (w0 := w) w.heap.size rfl _ _ 22 5 rfl Try.underlying22 info_u8 _ n1 [UInt8.ofNat (m % 256)] xs A1 c1 rfl rfl ?c1 (h3.below ((Below.refl _ _).alloc (Nat.le_refl _) _)) ?c2 ?c3 ?c4 ?_)
      case c1 =>
        have := OwnB.lit 5 wr w.heap.size [UInt8.ofNat (m % 256)] hsz (by simp)
        have e : (bv [UInt8.ofNat (m % 256)]).toArray = #[.int .u8 ((m : Int) % 256)] := by simp [bv]
        rw [e] at this; exact this
      case c2 => exact hb.alloc hsz _
      case c3 => simp; omega
      case c4 => simp; omega
      intro v2 w2 ho2 hb2 hg hat
      clear hg hat ho h3 h4
      go_wp2
      go_roundw
      case rel => exact ⟨m / 256, _, by omega, by go_num, hid (by rw [he.out, encN_pos m (by omega), List.append_assoc]; rfl), ho2, hb2⟩
      case measure => simp [intOf]; omega
    · obtain rfl : m = 0 := by omega
      have hxs : xs = encN k := by rw [he.out, encN_zero]; rfl
      have HX := hid hxs; clear hxs
      go_wp2_with (at_builtin; refine wpList_append_b (w0 := w) w.heap.size rfl _ _ 22 5 rfl Try.underlying22 info_u8 _ n1 [UInt8.ofNat n1] xs A1 c1 rfl rfl ?c1 (h3.below ((Below.refl _ _).alloc (Nat.le_refl _) _)) ?c2 ?c3 ?c4 ?_)
      case c1 =>
        have := OwnB.lit 5 wr w.heap.size [UInt8.ofNat n1] hsz (by simp)
        have e : (bv [UInt8.ofNat n1]).toArray = #[.int .u8 (n1 : Int)] := by simp [bv]; omega
        rw [e] at this; exact this
      case c2 => exact hb.alloc hsz _
      case c3 => simp; omega
      case c4 => simp; omega
      intro v2 w2 ho2 hb2 hg hat
      clear hg hat ho h3 h4
      go_wp2
      go_ret
      refine ⟨_, rfl, ?_, hb2⟩
      rw [numB, ← HX.out, HL.out]
      exact ho2

set_option maxRecDepth 100000 in
set_option maxHeartbeats 1000000 in
theorem rSum_any (A : Option Addr) (n c : Nat) (xs : List UInt8) (w : World) (h : IsB w A n c xs) :
    Calls Try.prog 42 #[.slice A n c] w fun e w' => e = .returned (.int .i64 (crc xs)) ∧ w' = w := by
  have hl := hid h.len
  have hc := h.cap
  have hm := h.max
  have HS := hid (h.some)
  clear h
  obtain ⟨R, hR⟩ : ∃ R, R = crcR 4294967295 xs := ⟨_, rfl⟩
  have HR := hid hR; clear hR
  go_enter Try.func42, Try.ntmps42
  go_wp2
  go_loop [3, 4, 5] (fun v3 v4 v5 => ∃ i r : Nat, i ≤ n ∧ r < 4294967296 ∧ v4 = .int .i64 i ∧ v3 = .int .i64 r ∧ Hid (crcR r (xs.drop i) = R)) (fun _ v4 _ => n - (intOf v4).toNat)
  case atStart => exact ⟨0, 4294967295, by omega, by omega, rfl, rfl, hid (by rw [HR.out]; rfl)⟩
  case round =>
    obtain ⟨i, r, hi, hr, rfl, rfl, hrel⟩ := hrel
    by_cases hlt : i < n
    · obtain ⟨b, o, rfl, hcell⟩ := HS.out (by omega)
      have hc1 := hcell i hlt
      have H1 := hid hcell; clear hcell
      have g1 := gb_lo xs i
      have g2 := gb_hi xs i
      have hst := hid (crcR_drop xs i (by rw [hl.out]; exact hlt) r)
      generalize hg : gb xs i = g at *
      have HG := hid hg; clear hg
      obtain ⟨gn, rfl⟩ := Int.eq_ofNat_of_zero_le g1
      have hx := bits_xor64 r gn (by omega) (by omega)
      have hq := xor_lt32 hr (show gn < 4294967296 by omega)
      rw [Int.toNat_natCast] at hst
      generalize hqe : r ^^^ gn = q at *
      have HQ := hid hqe; clear hqe
      go_wp2
      obtain ⟨R2, hR2⟩ : ∃ R2, R2 = crcBits 8 q := ⟨_, rfl⟩
      have HR2 := hid hR2; clear hR2 hx
      go_loop [3, 5] (fun v3 v5 => ∃ k r' : Nat, k ≤ 8 ∧ r' < 4294967296 ∧ v5 = .int .i64 k ∧ v3 = .int .i64 r' ∧ Hid (crcBits (8 - k) r' = R2)) (fun _ v5 => 8 - (intOf v5).toNat)
      case atStart => exact ⟨0, q, by omega, by omega, rfl, rfl, hid HR2.out.symm⟩
      case round =>
        obtain ⟨k, r', hk, hr', rfl, rfl, hrel2⟩ := hrel
        by_cases hk8 : k < 8
        · have hlt2 := crcBit_lt hr'
          obtain ⟨m, hm8⟩ : ∃ m, 8 - k = m + 1 := ⟨8 - k - 1, by omega⟩
          have HM := hid hm8; clear hm8
          by_cases hodd : r' % 2 = 1
          · have ho1 : (((r' : Int) % 2) == 1) = true := by simp; omega
            have HO := hid hodd; clear hodd
            go_wp2
            go_round
            case rel =>
              refine ⟨k + 1, crcBit r', by omega, hlt2, by go_num, ?_, hid ?_⟩
              · rw [show (3988292384 : Int) = ((3988292384 : Nat) : Int) from rfl, show ((r' : Int) / 2) = ((r' / 2 : Nat) : Int) from by omega, bits_xor64 _ _ (by omega) (by omega), crcBit, if_pos HO.out]
              · have := hrel2.out
                rw [HM.out] at this
                rw [show 8 - (k + 1) = m by have := HM.out; omega]
                exact this
            case measure => simp [intOf]; omega
          · have ho1 : (((r' : Int) % 2) == 1) = false := by simp; omega
            have HO := hid hodd; clear hodd
            go_wp2
            go_round
            case rel =>
              refine ⟨k + 1, crcBit r', by omega, hlt2, by go_num, ?_, hid ?_⟩
              · rw [show ((r' : Int) / 2) = ((r' / 2 : Nat) : Int) from by omega, crcBit, if_neg HO.out]
              · have := hrel2.out
                rw [HM.out] at this
                rw [show 8 - (k + 1) = m by have := HM.out; omega]
                exact this
            case measure => simp [intOf]; omega
        · go_wp2
          go_round
          case rel =>
            refine ⟨i + 1, r', by omega, hr', by go_num, rfl, hid ?_⟩
            have h1 := hrel.out
            rw [hst.out, HR2.out.symm] at h1
            have h2 := hrel2.out
            rw [show 8 - k = 0 by omega] at h2
            have h3 : r' = R2 := h2
            rw [h3]; exact h1
          case measure => simp [intOf]; omega
    · have hx : crcR r (xs.drop i) = r := by rw [List.drop_of_length_le (by rw [hl.out]; omega)]; rfl
      have hR2 := hrel.out
      rw [hx] at hR2
      have HX := hid hR2
      clear hR2 hx
      go_wp2
      go_ret
      refine ⟨ret_int ?_, rfl⟩
      have e : crc xs = 4294967295 - r := by rw [crc, HX.out, HR.out]
      rw [e]; omega

set_option maxRecDepth 100000 in
set_option maxHeartbeats 1000000 in
theorem rnumber_any (A : Option Addr) (n c : Nat) (xs : List UInt8) (at_ : Nat) (w : World) (h : IsB w A n c xs) (hat : at_ ≤ 281474976710656) :
    Calls Try.prog 101 #[.slice A n c, .int .i64 at_] w fun e w' => e = .returned (.tuple #[.int .i64 (numL (xs.drop at_)).1, .int .i64 (numL (xs.drop at_)).2.1, .int .i64 (numL (xs.drop at_)).2.2]) ∧ w' = w := by
  have hc := h.cap
  have hm := h.max
  by_cases c0 : n ≤ at_
  · have F := hid (show numL (xs.drop at_) = (0, 0, 20) by rw [List.drop_of_length_le (by rw [h.len]; exact c0)]; rfl)
    clear h
    go_enter Try.func101, Try.ntmps101
    go_wp2
    go_ret3
    rw [F.out]
    exact ⟨rfl, rfl⟩
  obtain ⟨b, o, rfl, hcell⟩ := h.some (by omega)
  have hl := h.len
  have hld : (xs.drop at_).length = n - at_ := by rw [List.length_drop, hl]
  obtain ⟨f1, f2, f3, f4, f5, f6⟩ := numL_cases (xs.drop at_) (by omega)
  rw [hld] at f3 f4 f5 f6
  have hgd : ∀ i, gb (xs.drop at_) i = gb xs (at_ + i) := fun i => by simp [gb, List.getD_eq_getElem?_getD, List.getElem?_drop]
  have h0 : w.cell? ⟨b, o + at_, none⟩ = some (.int .u8 (gb (xs.drop at_) 0)) := by rw [hgd]; exact hcell at_ (by omega)
  have H1 := hid (show ∀ i, at_ + i < n → w.cell? ⟨b, o + (at_ + i), none⟩ = some (.int .u8 (gb (xs.drop at_) i)) from fun i hi => by rw [hgd]; exact hcell _ hi)
  have kl := gb_lo (xs.drop at_) 0
  have kh := gb_hi (xs.drop at_) 0
  have hb := be_take ((xs.drop at_).drop 1)
  clear hcell hgd
  have HL := hid hl; clear hl
  have HB := hid hb; clear hb
  have HLD := hid hld; clear hld
  clear h
  generalize hxs : xs.drop at_ = ys at *
  clear hxs HL
  generalize hk0 : gb ys 0 = k0 at *
  have HK0 := hid hk0; clear hk0
  have hat1 : at_ < n := by omega
  by_cases c1 : 6 < k0
  · have F := hid (f1 c1); clear f1 f2 f3 f4 f5 f6
    go_enter Try.func101, Try.ntmps101
    go_wp2
    go_ret3
    rw [F.out]
    exact ⟨rfl, rfl⟩
  have c1' : k0 ≤ 6 := by omega
  by_cases c2 : k0 = 0
  · have F := hid (f2 c2); clear f1 f2 f3 f4 f5 f6
    have c2' : ¬ 0 < k0 := by omega
    have hs : 1 ≤ (n : Int) - at_ := by omega
    subst c2
    go_enter Try.func101, Try.ntmps101
    go_wp2
    apply wp_loop_once
    go_wp2
    go_ret3
    rw [F.out]
    exact ⟨rfl, rfl⟩
  have c2' : 0 < k0 := by omega
  by_cases c3 : n - at_ = 1
  · have F := hid (f3 c2' c1' c3); clear f1 f2 f3 f4 f5 f6
    have hs1 : ¬ (at_ : Int) + 1 < n := by omega
    have hs2 : (n : Int) - at_ < k0 + 1 := by omega
    have C3 := hid c3; clear c3
    go_enter Try.func101, Try.ntmps101
    go_wp2
    go_ret3
    rw [F.out]
    exact ⟨rfl, rfl⟩
  have hn2 : at_ + 1 < n := by omega
  have hn2' : 1 < n - at_ := by omega
  have hs1 : (at_ : Int) + 1 < n := by omega
  have hy : w.cell? ⟨b, o + (at_ + 1), none⟩ = some (.int .u8 (gb ys 1)) := H1.out 1 hn2
  have y1 := gb_lo ys 1
  have y2 := gb_hi ys 1
  generalize hk1 : gb ys 1 = k1 at *
  have HK1 := hid hk1; clear hk1
  by_cases c4 : k1 = 0
  · have F := hid (f4 c2' c1' hn2' c4); clear f1 f2 f3 f4 f5 f6
    have hy1 : (k1 == 0) = true := by simp [c4]
    clear c4
    go_enter Try.func101, Try.ntmps101
    go_wp2
    go_ret3
    rw [F.out]
    exact ⟨rfl, rfl⟩
  have hy1 : (k1 == 0) = false := by simp [c4]
  by_cases c5 : ((n - at_ : Nat) : Int) < k0 + 1
  · have F := hid (f5 c2' c1' hn2' c4 c5); clear f1 f2 f3 f4 f5 f6
    have hs2 : (n : Int) - at_ < k0 + 1 := by omega
    clear c5
    go_enter Try.func101, Try.ntmps101
    go_wp2
    go_ret3
    rw [F.out]
    exact ⟨rfl, rfl⟩
  have hs2 : ¬ (n : Int) - at_ < k0 + 1 := by omega
  have F := hid (f6 c2' c1' hn2' c4 (by omega))
  clear f1 f2 f3 f4 f5 f6
  have C3 := hid c3; clear c3
  go_enter Try.func101, Try.ntmps101
  go_wp2
  go_loop [8, 9] (fun v8 v9 => ∃ i : Nat, (i : Int) ≤ k0 ∧ v9 = .int .i64 (i + 1) ∧ v8 = .int .i64 (be ((ys.drop 1).take i))) (fun _ v9 => (k0 + 1 - intOf v9).toNat)
  case atStart => exact ⟨0, by omega, rfl, rfl⟩
  case round =>
    obtain ⟨i, hi, rfl, rfl⟩ := hrel
    have hqb : be ((ys.drop 1).take i) < 281474976710656 := by
      have h1 := be_lt ((ys.drop 1).take i)
      have h2 : ((ys.drop 1).take i).length ≤ 6 := by rw [List.length_take]; omega
      have h3 := Nat.pow_le_pow_right (show 0 < 256 by omega) h2
      omega
    by_cases hlt : (i : Int) < k0
    · have hc1 : w.cell? ⟨b, o + (at_ + (i + 1)), none⟩ = some (.int .u8 (gb ys (i + 1))) := H1.out (i + 1) (by omega)
      have g1 := gb_lo ys (i + 1)
      have g2 := gb_hi ys (i + 1)
      have hsn := HB.out i (by rw [List.length_drop, HLD.out]; omega)
      rw [show gb (ys.drop 1) i = gb ys (i + 1) by simp [gb, List.getD_eq_getElem?_getD, List.getElem?_drop, Nat.add_comm]] at hsn
      have HS := hid hsn; clear hsn
      generalize gb ys (i + 1) = g at *
      generalize be ((ys.drop 1).take i) = q at *
      have hx1 : (i : Int) + 1 ≤ k0 := by omega
      go_wp2
      go_round
      case rel => exact ⟨i + 1, by omega, by go_num, by rw [← HS.out]⟩
      case measure => simp [intOf]; omega
    · have hx1 : ¬ (i : Int) + 1 ≤ k0 := by omega
      have hik : i = k0.toNat := by omega
      have HIK := hid hik; clear hik
      generalize hbe : be ((ys.drop 1).take i) = q at *
      have HQ := hid hbe; clear hbe
      go_wp2
      go_ret3
      rw [F.out, ← HIK.out, HQ.out]
      have := HIK.out
      exact ⟨ret3_int rfl (by show k0 + 1 = ((i + 1 : Nat) : Int); omega) rfl, rfl⟩

set_option maxRecDepth 100000 in
theorem rText_no (s : ByteArray) (w : World) (hn : 1048576 < s.size) : Calls Try.prog 40 #[.string s] w fun e w' => e = .returned (.slice none 0 0) ∧ w' = w := by
  go_enter Try.func40, Try.ntmps40
  go_wp2
  go_ret
  exact ⟨rfl, rfl⟩

set_option maxRecDepth 100000 in
theorem rText_ok (s : ByteArray) (w : World) (hn : s.size ≤ 1048576) : Calls Try.prog 40 #[.string s] w (OutB 5 w (textB s.data.toList)) := by
  go_enter Try.func40, Try.ntmps40
  go_wp2_with (go_at_call 39; refine (rNum_ok s.size _ (by omega)).mono ?_)
  rintro e w1 ⟨v1, rfl, ho, hb⟩
  have hsz := hb.size
  have hl := numB_le s.size (by omega)
  go_wp2_with (at_builtin; refine wpList_append_s (w0 := w) w.heap.size rfl _ _ 22 9 5 rfl Try.underlying22 Try.underlying9 info_u8 v1 (numB s.size) s rfl rfl ho hb hsz ?c1 ?_)
  case c1 => omega
  intro v2 w2 ho2 hb2 hg
  clear hg
  go_wp2
  go_ret
  refine ⟨_, rfl, ?_, hb2⟩
  rw [textB, show s.data.toList.length = s.size by rw [Array.length_toList]; rfl]
  exact ho2

set_option maxRecDepth 100000 in
theorem rFrame_no (A : Option Addr) (n c : Nat) (w : World) (hn : 1048576 < n) : Calls Try.prog 43 #[.slice A n c] w fun e w' => e = .returned (.slice none 0 0) ∧ w' = w := by
  go_enter Try.func43, Try.ntmps43
  go_wp2
  go_ret
  exact ⟨rfl, rfl⟩

set_option maxRecDepth 100000 in
set_option maxHeartbeats 1000000 in
theorem rFrame_ok (A : Option Addr) (n c : Nat) (xs : List UInt8) (w : World) (h : IsB w A n c xs) (hn : n ≤ 1048576) : Calls Try.prog 43 #[.slice A n c] w (OutB 5 w (frameB xs)) := by
  have hc := h.cap
  have hm := h.max
  have HL := hid h.len
  have hcl := crc_lt xs
  generalize hcr : crc xs = s at *
  have HCR := hid hcr; clear hcr
  have HH := hid h; clear h
  have hl1 := numB_le n (by omega)
  go_enter Try.func43, Try.ntmps43
  go_wp2_with (go_at_call 42; refine (rSum_any A n c xs _ HH.out).mono ?_)
  rintro e w2 ⟨rfl, rfl⟩
  rw [HCR.out]
  have hb0 := below_alloc1 w2 (.cells #[.int .u8 93] 5)
  have ho0 := OwnB.lit 5 w2 w2.heap.size [93] (Nat.le_refl _) (by simp)
  go_wp2_with (go_at_call 39; refine (rNum_ok n _ (by omega)).mono ?_)
  rintro e w3 ⟨v3, rfl, ho3, hb3⟩
  obtain ⟨A3, n3, c3, rfl, h3, -⟩ := ho3.form
  have hB3 := below_then hb0 hb3
  have ho0' := owns_below ho0 hb3
  have hs3 := hB3.size
  have hl3 := hid h3.len
  go_wp2_with (at_builtin; refine wpList_append_b (w0 := w2) w2.heap.size rfl _ _ 22 5 rfl Try.underlying22 info_u8 _ n3 [93] (numB n) A3 c3 rfl rfl ho0' h3 hB3 hs3 ?c1 ?_)
  case c1 => rw [← hl3.out]; simp; omega
  intro v4 w4 ho4 hb4 hg4 hat4
  clear hg4 hat4 ho3 ho0 ho0' h3 hb3
  have hs4 := hb4.size
  go_wp2_with (at_builtin; refine wpList_append_b (w0 := w2) w2.heap.size rfl _ _ 22 5 rfl Try.underlying22 info_u8 _ n _ xs A c rfl rfl ho4 (HH.out.below hb4) hb4 hs4 ?c2 ?_)
  case c2 => simp; omega
  intro v5 w5 ho5 hb5 hg5 hat5
  clear hg5 hat5 ho4
  have hs5 := hb5.size
  have e : (bv (fourB s)).toArray = #[.int .u8 ((s : Int) / 16777216), .int .u8 ((s : Int) / 65536 % 256), .int .u8 ((s : Int) / 256 % 256), .int .u8 ((s : Int) % 256)] := by
    have : (bv (fourB s)).toArray = #[.int .u8 ((s : Int) / 16777216 % 256), .int .u8 ((s : Int) / 65536 % 256), .int .u8 ((s : Int) / 256 % 256), .int .u8 ((s : Int) % 256)] := by simp [bv, fourB]
    rw [show (s : Int) / 16777216 % 256 = (s : Int) / 16777216 by omega] at this
    exact this
  have hnew := IsB.newL w5 5 (fourB s) (by simp [fourB])
  rw [e] at hnew
  have HN := hid hnew; clear hnew e
  go_wp2_with (at_builtin; refine wpList_append_b (w0 := w2) w2.heap.size rfl _ _ 22 5 rfl Try.underlying22 info_u8 _ 4 _ (fourB s) _ 4 rfl rfl (ho5.alloc _) HN.out ?c3 ?c4 ?c5 ?_)
  case c3 => exact hb5.alloc hs5 _
  case c4 => simp; omega
  case c5 => simp [HL.out]; omega
  intro v6 w6 ho6 hb6 hg6 hat6
  clear hg6 hat6 ho5
  go_wp2
  go_ret
  exact ⟨_, rfl, ho6.cast (by simp [frameB, HL.out, HCR.out]), hb6⟩
end Go.Proofs.Ytcociocgoiofgaa
