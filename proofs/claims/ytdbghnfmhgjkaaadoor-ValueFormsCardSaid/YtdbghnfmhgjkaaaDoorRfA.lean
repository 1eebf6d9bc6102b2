/- The document's layer 1 in seat b: Num, number, Text. -/
import Derived.Test.YtdbghnfmhgjkaaaDoorWbA
import Derived.Test.YtdbghnfmhgjkaaaDoorK3
namespace Go.Proofs.YtdbghnfmhgjkaaaDoor
open Go.RowKit Go.Dio
set_option linter.unusedVariables false
set_option linter.unusedSimpArgs false


set_option maxRecDepth 100000 in
theorem rNum_no (n : Int) (w : World) (hn : n < 0 ∨ 281474976710655 < n) : Calls Tryd.prog 87 #[.int .i64 n] w fun e w' => e = .returned (.slice none 0 0) ∧ w' = w := by
  by_cases h : n < 0
  · clear hn
    go_enter Tryd.func87, Tryd.ntmps87
    go_wp2
    go_ret
    exact ⟨rfl, rfl⟩
  · have h2 : 281474976710655 < n := by omega
    clear hn
    go_enter Tryd.func87, Tryd.ntmps87
    go_wp2
    go_ret
    exact ⟨rfl, rfl⟩

set_option maxRecDepth 100000 in
set_option maxHeartbeats 1000000 in
theorem rNum_ok (k : Nat) (w : World) (hk : k < 281474976710656) : Calls Tryd.prog 87 #[.int .i64 k] w (OutB 5 w (numB k)) := by
  have h1 : ¬ (k : Int) < 0 := by omega
  have h2 : (k : Int) ≤ 281474976710655 := by omega
  have hl6 := encN_len 6 k (by omega)
  go_enter Tryd.func87, Tryd.ntmps87
  go_wp2
  go_loopw [0, 3] (fun v0 v3 wr => ∃ (m : Nat) (xs : List UInt8), m < 281474976710656 ∧ v0 = .int .i64 m ∧ Hid (encN k = encN m ++ xs) ∧ OwnB 5 wr w.heap.size v3 xs ∧ Below w.heap.size w wr) (fun v0 _ _ => (intOf v0).toNat)
  case atStart => exact ⟨k, [], hk, rfl, hid (by simp), OwnB.nil _ _ _, Below.refl _ _⟩
  case round =>
    obtain ⟨m, xs, hm, rfl, he, ho, hb⟩ := hrel
    obtain ⟨A1, n1, c1, rfl, h3, h4⟩ := ho.form
    have hsz := hb.size
    have hl := h3.len
    have hx6 : n1 ≤ 6 := by
      have := congrArg List.length he.out
      rw [List.length_append] at this; omega
    have HL := hid hl; clear hl
    by_cases hm0 : 0 < m
    · have hmi : 0 < (m : Int) := by omega
      go_wp2_with (at_builtin; refine wpList_append_b (w0 := w) w.heap.size rfl _ _ 55 5 rfl Tryd.underlying55 info_u8 _ n1 [UInt8.ofNat (m % 256)] xs A1 c1 rfl rfl ?c1 (h3.below ((Below.refl _ _).alloc (Nat.le_refl _) _)) ?c2 ?c3 ?c4 ?_)
      case c1 =>
        have := OwnB.lit 5 wr w.heap.size [UInt8.ofNat (m % 256)] hsz (by simp)
        have e : (bv [UInt8.ofNat (m % 256)]).toArray = #[.int .u8 ((m : Int) % 256)] := by simp [bv]
        rw [e] at this; exact this
      case c2 => exact hb.alloc hsz _
      case c3 => simp; omega
      case c4 => simp; omega
      intro v2 w2 ho2 hb2 hg hat
      clear hg hat ho h3 h4
      go_wp2
      go_roundw
      case rel => exact ⟨m / 256, _, by omega, by go_num, hid (by rw [he.out, encN_pos m (by omega), List.append_assoc]; rfl), ho2, hb2⟩
      case measure => simp [intOf]; omega
    · obtain rfl : m = 0 := by omega
      have hxs : xs = encN k := by rw [he.out, encN_zero]; rfl
      have HX := hid hxs; clear hxs
      go_wp2_with (at_builtin; refine wpList_append_b (w0 := w) w.heap.size rfl _ _ 55 5 rfl Tryd.underlying55 info_u8 _ n1 [UInt8.ofNat n1] xs A1 c1 rfl rfl ?c1 (h3.below ((Below.refl _ _).alloc (Nat.le_refl _) _)) ?c2 ?c3 ?c4 ?_)
      case c1 =>
        have := OwnB.lit 5 wr w.heap.size [UInt8.ofNat n1] hsz (by simp)
        have e : (bv [UInt8.ofNat n1]).toArray = #[.int .u8 (n1 : Int)] := by simp [bv]; omega
        rw [e] at this; exact this
      case c2 => exact hb.alloc hsz _
      case c3 => simp; omega
      case c4 => simp; omega
      intro v2 w2 ho2 hb2 hg hat
      clear hg hat ho h3 h4
      go_wp2
      go_ret
      refine ⟨_, rfl, ?_, hb2⟩
      rw [numB, ← HX.out, HL.out]
      exact ho2

set_option maxRecDepth 100000 in
set_option maxHeartbeats 1000000 in
theorem rnumber_any (A : Option Addr) (n c : Nat) (xs : List UInt8) (at_ : Nat) (w : World) (h : IsB w A n c xs) (hat : at_ ≤ 281474976710656) :
    Calls Tryd.prog 111 #[.slice A n c, .int .i64 at_] w fun e w' => e = .returned (.tuple #[.int .i64 (numL (xs.drop at_)).1, .int .i64 (numL (xs.drop at_)).2.1, .int .i64 (numL (xs.drop at_)).2.2]) ∧ w' = w := by
  have hc := h.cap
  have hm := h.max
  by_cases c0 : n ≤ at_
  · have F := hid (show numL (xs.drop at_) = (0, 0, 20) by rw [List.drop_of_length_le (by rw [h.len]; exact c0)]; rfl)
    clear h
    go_enter Tryd.func111, Tryd.ntmps111
    go_wp2
    go_ret3
    rw [F.out]
    exact ⟨rfl, rfl⟩
  obtain ⟨b, o, rfl, hcell⟩ := h.some (by omega)
  have hl := h.len
  have hld : (xs.drop at_).length = n - at_ := by rw [List.length_drop, hl]
  obtain ⟨f1, f2, f3, f4, f5, f6⟩ := numL_cases (xs.drop at_) (by omega)
  rw [hld] at f3 f4 f5 f6
  have hgd : ∀ i, gb (xs.drop at_) i = gb xs (at_ + i) := fun i => by simp [gb, List.getD_eq_getElem?_getD, List.getElem?_drop]
  have h0 : w.cell? ⟨b, o + at_, none⟩ = some (.int .u8 (gb (xs.drop at_) 0)) := by rw [hgd]; exact hcell at_ (by omega)
  have H1 := hid (show ∀ i, at_ + i < n → w.cell? ⟨b, o + (at_ + i), none⟩ = some (.int .u8 (gb (xs.drop at_) i)) from fun i hi => by rw [hgd]; exact hcell _ hi)
  have kl := gb_lo (xs.drop at_) 0
  have kh := gb_hi (xs.drop at_) 0
  have hb := be_take ((xs.drop at_).drop 1)
  clear hcell hgd
  have HL := hid hl; clear hl
  have HB := hid hb; clear hb
  have HLD := hid hld; clear hld
  clear h
  generalize hxs : xs.drop at_ = ys at *
  clear hxs HL
  generalize hk0 : gb ys 0 = k0 at *
  have HK0 := hid hk0; clear hk0
  have hat1 : at_ < n := by omega
  by_cases c1 : 6 < k0
  · have F := hid (f1 c1); clear f1 f2 f3 f4 f5 f6
    go_enter Tryd.func111, Tryd.ntmps111
    go_wp2
    go_ret3
    rw [F.out]
    exact ⟨rfl, rfl⟩
  have c1' : k0 ≤ 6 := by omega
  by_cases c2 : k0 = 0
  · have F := hid (f2 c2); clear f1 f2 f3 f4 f5 f6
    have c2' : ¬ 0 < k0 := by omega
    have hs : 1 ≤ (n : Int) - at_ := by omega
    subst c2
    go_enter Tryd.func111, Tryd.ntmps111
    go_wp2
    apply wp_loop_once
    go_wp2
    go_ret3
    rw [F.out]
    exact ⟨rfl, rfl⟩
  have c2' : 0 < k0 := by omega
  by_cases c3 : n - at_ = 1
  · have F := hid (f3 c2' c1' c3); clear f1 f2 f3 f4 f5 f6
    have hs1 : ¬ (at_ : Int) + 1 < n := by omega
    have hs2 : (n : Int) - at_ < k0 + 1 := by omega
    have C3 := hid c3; clear c3
    go_enter Tryd.func111, Tryd.ntmps111
    go_wp2
    go_ret3
    rw [F.out]
    exact ⟨rfl, rfl⟩
  have hn2 : at_ + 1 < n := by omega
  have hn2' : 1 < n - at_ := by omega
  have hs1 : (at_ : Int) + 1 < n := by omega
  have hy : w.cell? ⟨b, o + (at_ + 1), none⟩ = some (.int .u8 (gb ys 1)) := H1.out 1 hn2
  have y1 := gb_lo ys 1
  have y2 := gb_hi ys 1
  generalize hk1 : gb ys 1 = k1 at *
  have HK1 := hid hk1; clear hk1
  by_cases c4 : k1 = 0
  · have F := hid (f4 c2' c1' hn2' c4); clear f1 f2 f3 f4 f5 f6
    have hy1 : (k1 == 0) = true := by simp [c4]
    clear c4
    go_enter Tryd.func111, Tryd.ntmps111
    go_wp2
    go_ret3
    rw [F.out]
    exact ⟨rfl, rfl⟩
  have hy1 : (k1 == 0) = false := by simp [c4]
  by_cases c5 : ((n - at_ : Nat) : Int) < k0 + 1
  · have F := hid (f5 c2' c1' hn2' c4 c5); clear f1 f2 f3 f4 f5 f6
    have hs2 : (n : Int) - at_ < k0 + 1 := by omega
    clear c5
    go_enter Tryd.func111, Tryd.ntmps111
    go_wp2
    go_ret3
    rw [F.out]
    exact ⟨rfl, rfl⟩
  have hs2 : ¬ (n : Int) - at_ < k0 + 1 := by omega
  have F := hid (f6 c2' c1' hn2' c4 (by omega))
  clear f1 f2 f3 f4 f5 f6
  have C3 := hid c3; clear c3
  go_enter Tryd.func111, Tryd.ntmps111
  go_wp2
  go_loop [8, 9] (fun v8 v9 => ∃ i : Nat, (i : Int) ≤ k0 ∧ v9 = .int .i64 (i + 1) ∧ v8 = .int .i64 (be ((ys.drop 1).take i))) (fun _ v9 => (k0 + 1 - intOf v9).toNat)
  case atStart => exact ⟨0, by omega, rfl, rfl⟩
  case round =>
    obtain ⟨i, hi, rfl, rfl⟩ := hrel
    have hqb : be ((ys.drop 1).take i) < 281474976710656 := by
      have h1 := be_lt ((ys.drop 1).take i)
      have h2 : ((ys.drop 1).take i).length ≤ 6 := by rw [List.length_take]; omega
      have h3 := Nat.pow_le_pow_right (show 0 < 256 by omega) h2
      omega
    by_cases hlt : (i : Int) < k0
    · have hc1 : w.cell? ⟨b, o + (at_ + (i + 1)), none⟩ = some (.int .u8 (gb ys (i + 1))) := H1.out (i + 1) (by omega)
      have g1 := gb_lo ys (i + 1)
      have g2 := gb_hi ys (i + 1)
      have hsn := HB.out i (by rw [List.length_drop, HLD.out]; omega)
      rw [show gb (ys.drop 1) i = gb ys (i + 1) by simp [gb, List.getD_eq_getElem?_getD, List.getElem?_drop, Nat.add_comm]] at hsn
      have HS := hid hsn; clear hsn
      generalize gb ys (i + 1) = g at *
      generalize be ((ys.drop 1).take i) = q at *
      have hx1 : (i : Int) + 1 ≤ k0 := by omega
      go_wp2
      go_round
      case rel => exact ⟨i + 1, by omega, by go_num, by rw [← HS.out]⟩
      case measure => simp [intOf]; omega
    · have hx1 : ¬ (i : Int) + 1 ≤ k0 := by omega
      have hik : i = k0.toNat := by omega
      have HIK := hid hik; clear hik
      generalize hbe : be ((ys.drop 1).take i) = q at *
      have HQ := hid hbe; clear hbe
      go_wp2
      go_ret3
      rw [F.out, ← HIK.out, HQ.out]
      have := HIK.out
      exact ⟨ret3_int rfl (by show k0 + 1 = ((i + 1 : Nat) : Int); omega) rfl, rfl⟩

set_option maxRecDepth 100000 in
theorem rText_no (s : ByteArray) (w : World) (hn : 1048576 < s.size) : Calls Tryd.prog 96 #[.string s] w fun e w' => e = .returned (.slice none 0 0) ∧ w' = w := by
  go_enter Tryd.func96, Tryd.ntmps96
  go_wp2
  go_ret
  exact ⟨rfl, rfl⟩

set_option maxRecDepth 100000 in
theorem rText_ok (s : ByteArray) (w : World) (hn : s.size ≤ 1048576) : Calls Tryd.prog 96 #[.string s] w (OutB 5 w (textB s.data.toList)) := by
  go_enter Tryd.func96, Tryd.ntmps96
  go_wp2_with (go_at_call 87; refine (rNum_ok s.size _ (by omega)).mono ?_)
  rintro e w1 ⟨v1, rfl, ho, hb⟩
  have hsz := hb.size
  have hl := numB_le s.size (by omega)
  go_wp2_with (at_builtin; refine wpList_append_s (w0 := w) w.heap.size rfl _ _ 55 9 5 rfl Tryd.underlying55 Tryd.underlying9 info_u8 v1 (numB s.size) s rfl rfl ho hb hsz ?c1 ?_)
  case c1 => omega
  intro v2 w2 ho2 hb2 hg
  clear hg
  go_wp2
  go_ret
  refine ⟨_, rfl, ?_, hb2⟩
  rw [textB, show s.data.toList.length = s.size by rw [Array.length_toList]; rfl]
  exact ho2

end Go.Proofs.YtdbghnfmhgjkaaaDoor
