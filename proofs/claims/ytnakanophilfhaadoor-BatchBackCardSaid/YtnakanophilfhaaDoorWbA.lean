/- wire in seat b: number, Clone, Num, Text. -/
import Derived.Test.YtnakanophilfhaaDoorProg
import Derived.Test.YtnakanophilfhaaDoorRows
import Derived.Test.YtnakanophilfhaaDoorK
import Derived.Test.YtnakanophilfhaaDoorK2
import Derived.Test.YtnakanophilfhaaDoorPure1
import Derived.Lib.AppendZerosOnto
import Derived.Tactics2
import Derived.WalkKit
namespace Go.Proofs.YtnakanophilfhaaDoor
open Go.RowKit Go.Dio
set_option linter.unusedVariables false
set_option linter.unusedSimpArgs false


set_option maxHeartbeats 1000000 in
theorem number_any (A : Option Addr) (n c : Nat) (xs : List UInt8) (w : World) (h : IsB w A n c xs) :
    Calls Tryd.prog 95 #[.slice A n c] w fun e w' => e = .returned (.tuple #[.int .i64 (numL xs).1, .int .i64 (numL xs).2.1, .int .i64 (numL xs).2.2]) ∧ w' = w := by
  by_cases c0 : n = 0
  · have hl := h.len
    have F := hid (show numL xs = (0, 0, 20) by rw [c0] at hl; rw [List.eq_nil_of_length_eq_zero hl]; rfl)
    subst c0
    clear hl h
    go_enter Tryd.func95, Tryd.ntmps95
    go_wp2
    refine wp_scope_fwd 0 rfl ?_
    go_wp2
    go_step3
    refine ⟨rfl, (show Code.wp _ _ _ _ _ from ?_)⟩
    go_wp2
    rw [Exit.noGoto_ret]
    go_ret3
    rw [F.out]
    exact ⟨rfl, rfl⟩
  obtain ⟨b, o, rfl, hcell⟩ := h.some (by omega)
  obtain ⟨hl, hc, hm, -⟩ := h
  obtain ⟨f1, f2, f3, f4, f5, f6⟩ := numL_cases xs (by omega)
  rw [hl] at f3 f4 f5 f6
  have h0 : w.cell? ⟨b, o, none⟩ = some (.int .u8 (gb xs 0)) := hcell 0 (by omega)
  have kl := gb_lo xs 0
  have kh := gb_hi xs 0
  have hn0 : 0 < n := by omega
  have hn1 : ((n : Int) == 0) = false := by simp; omega
  have hb := be_take (xs.drop 1)
  have H1 := hid hcell; clear hcell
  have HL := hid hl; clear hl
  have HB := hid hb; clear hb
  generalize hk0 : gb xs 0 = k0 at *
  have HK0 := hid hk0; clear hk0
  by_cases c1 : 6 < k0
  · have F := hid (f1 c1); clear f1 f2 f3 f4 f5 f6
    go_enter Tryd.func95, Tryd.ntmps95
    go_wp2
    refine wp_scope_fwd 0 rfl ?_
    go_wp2
    rw [Exit.jump_ret]
    go_ret3
    rw [F.out]
    exact ⟨rfl, rfl⟩
  by_cases c2 : k0 = 0
  · have F := hid (f2 c2); clear f1 f2 f3 f4 f5 f6
    go_enter Tryd.func95, Tryd.ntmps95
    go_wp2
    refine wp_scope_fwd 0 rfl ?_
    go_wp2
    all_goals
      apply wp_loop_once
      go_wp2
      rw [Exit.jump_ret]
      go_ret3
      rw [F.out]
      exact ⟨rfl, rfl⟩
  have c2' : 0 < k0 := by omega
  have c1' : k0 ≤ 6 := by omega
  by_cases c3 : n = 1
  · have F := hid (f3 c2' c1' c3); clear f1 f2 f3 f4 f5 f6
    have hn3 : n ≤ 1 := by omega
    clear c3
    go_enter Tryd.func95, Tryd.ntmps95
    go_wp2
    refine wp_scope_fwd 0 rfl ?_
    go_wp2
    go_step3
    refine ⟨rfl, (show Code.wp _ _ _ _ _ from ?_)⟩
    go_wp2
    rw [Exit.noGoto_ret]
    go_ret3
    rw [F.out]
    exact ⟨rfl, rfl⟩
  have hn2 : 1 < n := by omega
  have hy : w.cell? ⟨b, o + 1, none⟩ = some (.int .u8 (gb xs 1)) := H1.out 1 (by omega)
  have y1 := gb_lo xs 1
  have y2 := gb_hi xs 1
  generalize hk1 : gb xs 1 = k1 at *
  have HK1 := hid hk1; clear hk1
  by_cases c4 : k1 = 0
  · have F := hid (f4 c2' c1' hn2 c4); clear f1 f2 f3 f4 f5 f6
    have hy1 : (k1 == 0) = true := by simp [c4]
    clear c4
    go_enter Tryd.func95, Tryd.ntmps95
    go_wp2
    refine wp_scope_fwd 0 rfl ?_
    go_wp2
    rw [Exit.jump_ret]
    go_ret3
    rw [F.out]
    exact ⟨rfl, rfl⟩
  have hy1 : (k1 == 0) = false := by simp [c4]
  by_cases c5 : (n : Int) < k0 + 1
  · have F := hid (f5 c2' c1' hn2 c4 c5); clear f1 f2 f3 f4 f5 f6
    go_enter Tryd.func95, Tryd.ntmps95
    go_wp2
    refine wp_scope_fwd 0 rfl ?_
    go_wp2
    go_step3
    refine ⟨rfl, (show Code.wp _ _ _ _ _ from ?_)⟩
    go_wp2
    rw [Exit.noGoto_ret]
    go_ret3
    rw [F.out]
    exact ⟨rfl, rfl⟩
  have F := hid (f6 c2' c1' hn2 c4 (by omega))
  clear f1 f2 f3 f4 f5 f6
  go_enter Tryd.func95, Tryd.ntmps95
  go_wp2
  refine wp_scope_fwd 0 rfl ?_
  go_wp2
  go_loop [2, 6, 40] (fun v2 v6 v40 => ∃ i : Nat, (i : Int) ≤ k0 ∧ v40 = .int .i64 i ∧ v2 = .int .i64 (be ((xs.drop 1).take i))) (fun _ _ v40 => (k0 - intOf v40).toNat)
  case atStart => exact ⟨0, by omega, rfl, rfl⟩
  case round =>
    obtain ⟨i, hi, rfl, rfl⟩ := hrel
    have hqb : be ((xs.drop 1).take i) < 281474976710656 := by
      have h1 := be_lt ((xs.drop 1).take i)
      have h2 : ((xs.drop 1).take i).length ≤ 6 := by rw [List.length_take]; omega
      have h3 := Nat.pow_le_pow_right (show 0 < 256 by omega) h2
      omega
    by_cases hlt : (i : Int) < k0
    · have hc1 : w.cell? ⟨b, o + 1 + i, none⟩ = some (.int .u8 (gb xs (1 + i))) := by
        rw [Nat.add_assoc]; exact H1.out (1 + i) (by omega)
      have g1 := gb_lo xs (1 + i)
      have g2 := gb_hi xs (1 + i)
      have hsn := HB.out i (by rw [List.length_drop, HL.out]; omega)
      rw [show gb (xs.drop 1) i = gb xs (1 + i) by simp [gb, List.getD_eq_getElem?_getD, List.getElem?_drop, Nat.add_comm]] at hsn
      have HS := hid hsn; clear hsn
      generalize gb xs (1 + i) = g at *
      generalize be ((xs.drop 1).take i) = q at *
      have hor := or_256 q g (by omega) (by omega) (by omega) (by omega)
      have HOR := hid hor; clear hor
      go_wp2
      go_round
      case rel => exact ⟨i + 1, by omega, by go_num, by rw [HOR.out, ← HS.out]⟩
      case measure => simp [intOf]; omega
    · have hik : i = k0.toNat := by omega
      have HIK := hid hik; clear hik
      generalize hbe : be ((xs.drop 1).take i) = q at *
      have HQ := hid hbe; clear hbe
      go_wp2
      rw [Exit.jump_ret]
      go_ret3
      rw [F.out, ← HIK.out, HQ.out]
      have := HIK.out
      exact ⟨ret3_int rfl (by show 1 + k0 = ((i + 1 : Nat) : Int); omega) rfl, rfl⟩


theorem info_u8 : (Tryd.prog.info? 5).map (fun i => (i.zero, i.size, i.bytes)) = some (some (.int .u8 0), 1, 1) := by kernel_rfl

set_option maxHeartbeats 1000000 in
theorem clone_any (A : Option Addr) (n c : Nat) (xs : List UInt8) (w : World) (h : IsB w A n c xs) (hn : n ≤ 140737488355328) :
    Calls Tryd.prog 54 #[.slice A n c] w (OutB 5 w xs) := by
  rcases A with _ | ad
  · have hx : xs = [] := by
      rcases Nat.eq_zero_or_pos n with h0 | h0
      · exact List.eq_nil_of_length_eq_zero (by rw [h.len, h0])
      · obtain ⟨b, o, e, _⟩ := h.some h0; cases e
    have hn0 : n = 0 := by rw [← h.len, hx]; rfl
    have hcc := h.max
    subst hx hn0
    clear h
    have hnil := run_eqnil (P := Tryd.prog) 31 5 Tryd.underlying31
    go_enter Tryd.func54, Tryd.ntmps54
    go_wp2
    go_ret
    exact ⟨_, rfl, OwnB.nil _ _ _, Below.refl _ _⟩
  · have hnil := run_eqnil (P := Tryd.prog) 31 5 Tryd.underlying31
    have hl := hid h.len
    go_enter Tryd.func54, Tryd.ntmps54
    go_wp2_with (at_builtin; refine wpList_append_b (w0 := w) w.heap.size rfl _ _ 31 5 rfl Tryd.underlying31 info_u8 _ n [] xs (some ad) c rfl rfl ?c1 ?c2 ?c3 ?c4 ?c5 ?_)
    case c1 => exact OwnB.lit _ w _ [] (Nat.le_refl _) (by simp)
    case c2 => exact h.below ((Below.refl _ _).alloc (Nat.le_refl _) _)
    case c3 => exact (Below.refl _ _).alloc (Nat.le_refl _) _
    case c4 => simp
    case c5 => simpa using hn
    intro v1 w1 ho hb hg hat
    clear hg hat
    go_wp2
    go_ret
    exact ⟨v1, rfl, ho, hb⟩

set_option maxRecDepth 100000 in
theorem Num_no (n : Int) (w : World) (hn : n < 0 ∨ 281474976710655 < n) : Calls Tryd.prog 85 #[.int .i64 n] w fun e w' => e = .returned (.tuple #[.slice none 0 0, .int .i64 30]) ∧ w' = w := by
  by_cases h : n < 0
  · clear hn
    go_enter Tryd.func85, Tryd.ntmps85
    go_wp2
    go_ret2
    exact ⟨rfl, rfl⟩
  · have h2 : 281474976710655 < n := by omega
    clear hn
    go_enter Tryd.func85, Tryd.ntmps85
    go_wp2
    go_ret2
    exact ⟨rfl, rfl⟩

set_option maxRecDepth 100000 in
set_option maxHeartbeats 1000000 in
theorem Num_ok (k : Nat) (w : World) (hk : k < 281474976710656) : Calls Tryd.prog 85 #[.int .i64 k] w (OutB2 5 w (numB k) 0) := by
  have h1 : ¬ (k : Int) < 0 := by omega
  have h2 : (k : Int) ≤ 281474976710655 := by omega
  go_enter Tryd.func85, Tryd.ntmps85
  go_wp2
  go_loopw [4, 5, 6] (fun v4 v5 v6 wr => ∃ j : Nat, j ≤ 6 ∧ v5 = .int .i64 (8 * (j : Int) - 8) ∧ OwnB 5 wr w.heap.size v4 (0 :: encN (k / 256 ^ j)) ∧ Below w.heap.size w wr) (fun _ v5 _ _ => (intOf v5 + 8).toNat)
  case atStart =>
    refine ⟨6, by omega, rfl, ?_, (Below.refl _ _).alloc (Nat.le_refl _) _⟩
    rw [show k / 256 ^ 6 = 0 by omega, encN_zero]
    exact OwnB.lit 5 w w.heap.size [0] (Nat.le_refl _) (by simp)
  case round =>
    obtain ⟨j, hj, rfl, ho, hb⟩ := hrel
    by_cases hj0 : 0 < j
    · have hs1 : 0 ≤ 8 * (j : Int) - 8 := by omega
      have hs2 : 8 * (j : Int) - 8 ≤ 40 := by omega
      obtain ⟨j, rfl⟩ : ∃ i, j = i + 1 := ⟨j - 1, by omega⟩
      have hq : (k : Int) / 2 ^ (8 * (j + 1) - 8) = ((k / 256 ^ j : Nat) : Int) := by
        have e : (2 : Int) ^ (8 * j) = ((256 ^ j : Nat) : Int) := by rw [← show (2 ^ 8) ^ j = 256 ^ j from rfl, ← Nat.pow_mul]; simp
        rw [show 8 * (j + 1) - 8 = 8 * j by omega, e]; norm_cast
      have hqk : k / 256 ^ j ≤ k := Nat.div_le_self _ _
      have hqq := hid (show k / 256 ^ j / 256 = k / 256 ^ (j + 1) by rw [Nat.div_div_eq_div_mul, Nat.pow_succ])
      generalize hqe : k / 256 ^ j = q at *
      have HQ := hid hqe; clear hqe
      have hsz := hb.size
      by_cases hq0 : 0 < q
      · have hlen : (0 :: encN (k / 256 ^ (j + 1))).length + 1 ≤ 140737488355328 := by
          have := encN_len 6 (k / 256 ^ (j + 1)) (by have := Nat.div_le_self k (256 ^ (j + 1)); omega)
          simp; omega
        go_wp2_with (at_builtin; refine wpList_append_b (w0 := w) w.heap.size rfl _ _ 31 5 rfl Tryd.underlying31 info_u8 _ 1 _ [UInt8.ofNat (q % 256)] _ 1 rfl rfl (ho.alloc _) (IsB.new1 wr _ _ _ ?c1) ?c2 ?c3 hlen ?_)
        case c1 => rw [UInt8.toNat_ofNat']; omega
        case c2 => exact hb.alloc hsz _
        case c3 => simp; omega
        intro v2 w2 ho2 hb2 hg hat
        clear hg hat
        go_wp2
        go_roundw
        case rel =>
          refine ⟨j, by omega, by go_num, ?_, hb2⟩
          rw [HQ.out, encN_pos q (by omega), hqq.out]; exact ho2
        case measure => simp [intOf]; omega
      · have hqz : q = 0 := by omega
        have HQZ := hid hqz; clear hqz
        go_wp2_with fail
        go_roundw
        case rel =>
          refine ⟨j, by omega, by go_num, ?_, hb⟩
          rw [HQ.out, HQZ.out, encN_zero]
          have := hqq.out
          rw [HQZ.out] at this
          rw [← this, show 0 / 256 = 0 from rfl, encN_zero] at ho
          exact ho
        case measure => simp [intOf]; omega
    · obtain rfl : j = 0 := by omega
      rw [show k / 256 ^ 0 = k by simp] at ho
      obtain ⟨g, cap, rfl, hbg, hgl, hlc, hcm, hcell, hfz, hset⟩ := ho.at_ (by simp)
      have hl := encN_len 6 k (by omega)
      have hc0 := hcell 0 (by simp)
      have hf0 := hfz 0
      obtain ⟨o1, g1⟩ := hset 0 (UInt8.ofNat (encN k).length)
      clear hcell hfz hset
      generalize hn : (0 :: encN k).length = n at *
      have hn' : n = (encN k).length + 1 := by rw [← hn]; rfl
      have hn7 : n ≤ 7 := by omega
      have hn1 : 1 ≤ n := by omega
      have HN := hid hn'; clear hn hn'
      go_wp2_with fail
      go_ret2
      have hv : (n : Int) - 1 = ((UInt8.ofNat (encN k).length).toNat : Int) := by rw [UInt8.toNat_ofNat', HN.out]; omega
      rw [hv]
      refine ⟨_, rfl, ?_, hb.grown g1 hb.size (fun q hq => by cases hq; exact hbg)⟩
      have e : (0 :: encN k).set 0 (UInt8.ofNat (encN k).length) = numB k := rfl
      rw [e] at o1
      exact o1

theorem numB_le (n : Nat) (h : n < 281474976710656) : (numB n).length ≤ 8 := by have := numB_len n h; omega

set_option maxRecDepth 100000 in
theorem Text_no (s : ByteArray) (w : World) (hn : 1048576 < s.size) : Calls Tryd.prog 51 #[.string s] w fun e w' => e = .returned (.tuple #[.slice none 0 0, .int .i64 6]) ∧ w' = w := by
  go_enter Tryd.func51, Tryd.ntmps51
  go_wp2
  go_ret2
  exact ⟨rfl, rfl⟩

set_option maxRecDepth 100000 in
theorem Text_ok (s : ByteArray) (w : World) (hn : s.size ≤ 1048576) : Calls Tryd.prog 51 #[.string s] w (OutB2 5 w (textB s.data.toList) 0) := by
  go_enter Tryd.func51, Tryd.ntmps51
  go_wp2_with (go_at_call 85; refine (Num_ok s.size _ (by omega)).mono ?_)
  rintro e w1 ⟨v1, rfl, ho, hb⟩
  have hsz := hb.size
  have hl := numB_le s.size (by omega)
  go_wp2_with (at_builtin; refine wpList_append_s (w0 := w) w.heap.size rfl _ _ 31 9 5 rfl Tryd.underlying31 Tryd.underlying9 info_u8 v1 (numB s.size) s rfl rfl ho hb hsz ?c1 ?_)
  case c1 => omega
  intro v2 w2 ho2 hb2 hg
  clear hg
  go_wp2
  go_ret2
  refine ⟨_, rfl, ?_, hb2⟩
  rw [textB, show s.data.toList.length = s.size by rw [Array.length_toList]; rfl]
  exact ho2


def pnum (n : Int) : List UInt8 × Int := if 0 ≤ n ∧ n ≤ 281474976710655 then (numB n.toNat, 0) else ([], 30)
def ptext (s : ByteArray) : List UInt8 × Int := if s.size ≤ 1048576 then (textB s.data.toList, 0) else ([], 6)
theorem pnum_or (n : Int) : ((pnum n).2 = 0 ∧ 0 < (pnum n).1.length) ∨ ((pnum n).2 = 30 ∧ (pnum n).1 = []) := by
  unfold pnum
  split
  · exact .inl ⟨rfl, numB_pos _⟩
  · exact .inr ⟨rfl, rfl⟩
theorem ptext_or (s : ByteArray) : ((ptext s).2 = 0 ∧ 0 < (ptext s).1.length) ∨ ((ptext s).2 = 6 ∧ (ptext s).1 = []) := by
  unfold ptext
  split
  · exact .inl ⟨rfl, by simp [textB, numB]⟩
  · exact .inr ⟨rfl, rfl⟩

theorem Num_all (n : Int) (w : World) : Calls Tryd.prog 85 #[.int .i64 n] w (OutB2 5 w (pnum n).1 (pnum n).2) := by
  by_cases h : 0 ≤ n ∧ n ≤ 281474976710655
  · obtain ⟨k, rfl⟩ := Int.eq_ofNat_of_zero_le h.1
    rw [pnum, if_pos h, Int.toNat_natCast]
    exact Num_ok k w (by omega)
  · rw [pnum, if_neg h]
    exact (Num_no n w (by omega)).mono fun e w' ⟨h1, h2⟩ => by subst h2; exact ⟨_, h1, OwnB.nil _ _ _, Below.refl _ _⟩
theorem Text_all (s : ByteArray) (w : World) : Calls Tryd.prog 51 #[.string s] w (OutB2 5 w (ptext s).1 (ptext s).2) := by
  by_cases h : s.size ≤ 1048576
  · rw [ptext, if_pos h]
    exact Text_ok s w h
  · rw [ptext, if_neg h]
    exact (Text_no s w (by omega)).mono fun e w' ⟨h1, h2⟩ => by subst h2; exact ⟨_, h1, OwnB.nil _ _ _, Below.refl _ _⟩
/-- A number's bytes are there. -/
theorem numL_le (xs : List UInt8) (n k : Nat) (h : numL xs = (n, k, 0)) : k ≤ xs.length ∧ k ≤ 7 ∧ n < 281474976710656 := by
  rcases xs with _ | ⟨c, t⟩
  · simp [numL] at h
  · simp only [numL] at h
    split at h
    · simp at h
    split at h
    · simp at h
    split at h
    · simp at h
    · simp only [Prod.mk.injEq, and_true] at h
      obtain ⟨rfl, rfl⟩ := h
      have h1 := be_lt (t.take c.toNat)
      have h2 : (t.take c.toNat).length ≤ 6 := by rw [List.length_take]; omega
      have h3 := Nat.pow_le_pow_right (show 0 < 256 by omega) h2
      refine ⟨by simp; omega, by omega, by omega⟩

end Go.Proofs.YtnakanophilfhaaDoor
