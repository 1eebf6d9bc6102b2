/- wire: four, Num, Text, Frame. -/
import Derived.Test.YtcociocgoiofgaaWire1
import Derived.Test.YtcociocgoiofgaaWire2
import Derived.Test.YtcociocgoiofgaaWire3
import Derived.Test.YtcociocgoiofgaaK2
namespace Go.Proofs.Ytcociocgoiofgaa
open Go.RowKit Go.Dio
set_option linter.unusedVariables false
set_option linter.unusedSimpArgs false

theorem four_any (k : Nat) (w : World) (hk : k < 4294967296) : Calls Try.prog 99 #[.int .i64 k] w (OutB 5 w (fourB k)) := by
  go_enter Try.func99, Try.ntmps99
  go_wp2
  go_ret
  refine ⟨_, rfl, ?_, (Below.refl _ _).alloc (Nat.le_refl _) _⟩
  have h := OwnB.lit 5 w w.heap.size (fourB k) (Nat.le_refl _) (by simp [fourB])
  have e : (bv (fourB k)).toArray = #[.int .u8 ((k : Int) / 16777216 % 256), .int .u8 ((k : Int) / 65536 % 256), .int .u8 ((k : Int) / 256 % 256), .int .u8 ((k : Int) % 256)] := by
    simp [bv, fourB]
  rw [show (k : Int) / 16777216 % 256 = (k : Int) / 16777216 by omega] at e
  rw [e] at h
  exact h

set_option maxRecDepth 100000 in
theorem Num_no (n : Int) (w : World) (hn : n < 0 ∨ 281474976710655 < n) : Calls Try.prog 37 #[.int .i64 n] w fun e w' => e = .returned (.tuple #[.slice none 0 0, .int .i64 30]) ∧ w' = w := by
  by_cases h : n < 0
  · clear hn
    go_enter Try.func37, Try.ntmps37
    go_wp2
    go_ret2
    exact ⟨rfl, rfl⟩
  · have h2 : 281474976710655 < n := by omega
    clear hn
    go_enter Try.func37, Try.ntmps37
    go_wp2
    go_ret2
    exact ⟨rfl, rfl⟩

set_option maxRecDepth 100000 in
set_option maxHeartbeats 1000000 in
theorem Num_ok (k : Nat) (w : World) (hk : k < 281474976710656) : Calls Try.prog 37 #[.int .i64 k] w (OutB2 5 w (numB k) 0) := by
  have h1 : ¬ (k : Int) < 0 := by omega
  have h2 : (k : Int) ≤ 281474976710655 := by omega
  go_enter Try.func37, Try.ntmps37
  go_wp2
  go_loopw [4, 5, 6] (fun v4 v5 v6 wr => ∃ j : Nat, j ≤ 6 ∧ v5 = .int .i64 (8 * (j : Int) - 8) ∧ OwnB 5 wr w.heap.size v4 (0 :: encN (k / 256 ^ j)) ∧ Below w.heap.size w wr) (fun _ v5 _ _ => (intOf v5 + 8).toNat)
  case atStart =>
    refine ⟨6, by omega, rfl, ?_, (Below.refl _ _).alloc (Nat.le_refl _) _⟩
    rw [show k / 256 ^ 6 = 0 by omega, encN_zero]
    exact OwnB.lit 5 w w.heap.size [0] (Nat.le_refl _) (by simp)
  case round =>
    obtain ⟨j, hj, rfl, ho, hb⟩ := hrel
    by_cases hj0 : 0 < j
    · have hs1 : 0 ≤ 8 * (j : Int) - 8 := by omega
      have hs2 : 8 * (j : Int) - 8 ≤ 40 := by omega
      obtain ⟨j, rfl⟩ : ∃ i, j = i + 1 := ⟨j - 1, by omega⟩
      have hq : (k : Int) / 2 ^ (8 * (j + 1) - 8) = ((k / 256 ^ j : Nat) : Int) := by
        have e : (2 : Int) ^ (8 * j) = ((256 ^ j : Nat) : Int) := by rw [← show (2 ^ 8) ^ j = 256 ^ j from rfl, ← Nat.pow_mul]; simp
        rw [show 8 * (j + 1) - 8 = 8 * j by omega, e]; norm_cast
      have hqk : k / 256 ^ j ≤ k := Nat.div_le_self _ _
      have hqq := hid (show k / 256 ^ j / 256 = k / 256 ^ (j + 1) by rw [Nat.div_div_eq_div_mul, Nat.pow_succ])
      generalize hqe : k / 256 ^ j = q at *
      have HQ := hid hqe; clear hqe
      have hsz := hb.size
      by_cases hq0 : 0 < q
      · have hlen : (0 :: encN (k / 256 ^ (j + 1))).length + 1 ≤ 140737488355328 := by
          have := encN_len 6 (k / 256 ^ (j + 1)) (by have := Nat.div_le_self k (256 ^ (j + 1)); omega)
          simp; omega
        go_wp2_with (at_builtin; refine wpList_append_b (w0 := w) w.heap.size rfl _ _ 22 5 rfl Try.underlying22 info_u8 _ 1 _ [UInt8.ofNat (q % 256)] _ 1 rfl rfl (ho.alloc _) (IsB.new1 wr _ _ _ ?c1) ?c2 ?c3 hlen ?_)
        case c1 => rw [UInt8.toNat_ofNat']; omega
        case c2 => exact hb.alloc hsz _
        case c3 => simp; omega
        intro v2 w2 ho2 hb2 hg hat
        clear hg hat
        go_wp2
        go_roundw
        case rel =>
          refine ⟨j, by omega, by go_num, ?_, hb2⟩
          rw [HQ.out, encN_pos q (by omega), hqq.out]; exact ho2
        case measure => simp [intOf]; omega
      · have hqz : q = 0 := by omega
        have HQZ := hid hqz; clear hqz
        go_wp2_with fail
        go_roundw
        case rel =>
          refine ⟨j, by omega, by go_num, ?_, hb⟩
          rw [HQ.out, HQZ.out, encN_zero]
          have := hqq.out
          rw [HQZ.out] at this
          rw [← this, show 0 / 256 = 0 from rfl, encN_zero] at ho
          exact ho
        case measure => simp [intOf]; omega
    · obtain rfl : j = 0 := by omega
      rw [show k / 256 ^ 0 = k by simp] at ho
      obtain ⟨g, cap, rfl, hbg, hgl, hlc, hcm, hcell, hfz, hset⟩ := ho.at_ (by simp)
      have hl := encN_len 6 k (by omega)
      have hc0 := hcell 0 (by simp)
      have hf0 := hfz 0
      obtain ⟨o1, g1⟩ := hset 0 (UInt8.ofNat (encN k).length)
      clear hcell hfz hset
      generalize hn : (0 :: encN k).length = n at *
      have hn' : n = (encN k).length + 1 := by rw [← hn]; rfl
      have hn7 : n ≤ 7 := by omega
      have hn1 : 1 ≤ n := by omega
      have HN := hid hn'; clear hn hn'
      go_wp2_with fail
      go_ret2
      have hv : (n : Int) - 1 = ((UInt8.ofNat (encN k).length).toNat : Int) := by rw [UInt8.toNat_ofNat', HN.out]; omega
      rw [hv]
      refine ⟨_, rfl, ?_, hb.grown g1 hb.size (fun q hq => by cases hq; exact hbg)⟩
      have e : (0 :: encN k).set 0 (UInt8.ofNat (encN k).length) = numB k := rfl
      rw [e] at o1
      exact o1

theorem numB_le (n : Nat) (h : n < 281474976710656) : (numB n).length ≤ 8 := by have := numB_len n h; omega

set_option maxRecDepth 100000 in
theorem Text_no (s : ByteArray) (w : World) (hn : 1048576 < s.size) : Calls Try.prog 38 #[.string s] w fun e w' => e = .returned (.tuple #[.slice none 0 0, .int .i64 6]) ∧ w' = w := by
  go_enter Try.func38, Try.ntmps38
  go_wp2
  go_ret2
  exact ⟨rfl, rfl⟩

set_option maxRecDepth 100000 in
theorem Text_ok (s : ByteArray) (w : World) (hn : s.size ≤ 1048576) : Calls Try.prog 38 #[.string s] w (OutB2 5 w (textB s.data.toList) 0) := by
  go_enter Try.func38, Try.ntmps38
  go_wp2_with (go_at_call 37; refine (Num_ok s.size _ (by omega)).mono ?_)
  rintro e w1 ⟨v1, rfl, ho, hb⟩
  have hsz := hb.size
  have hl := numB_le s.size (by omega)
  go_wp2_with (at_builtin; refine wpList_append_s (w0 := w) w.heap.size rfl _ _ 22 9 5 rfl Try.underlying22 Try.underlying9 info_u8 v1 (numB s.size) s rfl rfl ho hb hsz ?c1 ?_)
  case c1 => omega
  intro v2 w2 ho2 hb2 hg
  clear hg
  go_wp2
  go_ret2
  refine ⟨_, rfl, ?_, hb2⟩
  rw [textB, show s.data.toList.length = s.size by rw [Array.length_toList]; rfl]
  exact ho2

set_option maxRecDepth 100000 in
theorem Frame_no (A : Option Addr) (n c : Nat) (w : World) (hn : 1048576 < n) : Calls Try.prog 24 #[.slice A n c] w fun e w' => e = .returned (.tuple #[.slice none 0 0, .int .i64 6]) ∧ w' = w := by
  go_enter Try.func24, Try.ntmps24
  go_wp2
  go_ret2
  exact ⟨rfl, rfl⟩

set_option maxRecDepth 100000 in
set_option maxHeartbeats 1000000 in
theorem Frame_ok (A : Option Addr) (n c : Nat) (xs : List UInt8) (w : World) (h : IsB w A n c xs) (hn : n ≤ 1048576) : Calls Try.prog 24 #[.slice A n c] w (OutB2 5 w (frameB xs) 0) := by
  have hc := h.cap
  have hm := h.max
  have HL := hid h.len
  go_enter Try.func24, Try.ntmps24
  go_wp2_with (go_at_call 37; refine (Num_ok n _ (by omega)).mono ?_)
  rintro e w1 ⟨v1, rfl, ho, hb⟩
  have hs1 := hb.size
  obtain ⟨A1, n1, c1, rfl, h1, -⟩ := ho.form
  have hl1 := numB_le n (by omega)
  have e1 := h1.len
  have HH1 := hid h1; have HE1 := hid e1; clear h1 e1 ho
  have hcl := crc_lt xs
  generalize hcr : crc xs = s at *
  have HCR := hid hcr; clear hcr
  have HH := hid h; clear h
  go_wp2_with (go_at_call 41; refine (sum_any A n c xs _ (HH.out.below (below_new hb _))).mono ?_)
  rintro e w2 ⟨rfl, hw2⟩
  have HW2 := hid hw2; clear hw2
  rw [HCR.out]
  go_wp2_with (go_at_call 99; refine (four_any s _ hcl).mono ?_)
  rintro e w3 ⟨v3, rfl, ho3, hb3⟩
  obtain ⟨A3, n3, c3, rfl, h3, -⟩ := ho3.form
  have hb3' : Below w1.heap.size w1 w3 := by rw [HW2.out] at hb3; exact below_then (below_alloc1 w1 _) hb3
  have hb3'' : Below (w1.alloc (Obj.cells #[Value.int IntKind.u8 93] 5)).heap.size (w1.alloc (Obj.cells #[Value.int IntKind.u8 93] 5)) w3 := by rw [HW2.out] at hb3; exact hb3
  have h0 := (IsB.new1 w1 5 93 93 rfl).below hb3''
  have h1 := HH1.out.below hb3'
  have h2 := HH.out.below (below_then hb hb3')
  have HBB := hid (IsBB.new w3 22 [(some ⟨w1.heap.size, 0, none⟩, 1, 1, [93]), (A1, n1, c1, numB n), (A, n, c, xs), (A3, n3, c3, fourB s)] (by
    intro t ht
    simp only [List.mem_cons, List.not_mem_nil, or_false] at ht
    rcases ht with rfl | rfl | rfl | rfl
    · exact h0
    · exact h1
    · exact h2
    · exact h3) (by simp))
  have e3 := hid h3.len
  clear h0 h1 h2 h3 ho3
  go_wp2_with (go_at_call 102; refine (concat_any _ _ _ _ _ HBB.out ?c1).mono ?_)
  case c1 =>
    have := HL.out
    simp only [List.map_cons, List.map_nil, List.flatten_cons, List.flatten_nil, List.length_append, List.length_cons, List.length_nil, List.append_nil]
    simp only [fourB, List.length_cons, List.length_nil]
    omega
  rintro e w4 ⟨v4, rfl, ho4, hb4⟩
  go_wp2_with fail
  go_ret2
  have hB : Below w.heap.size w (w3.alloc (.cells #[Value.slice (some ⟨w1.heap.size, 0, none⟩) 1 1, Value.slice A1 n1 c1, Value.slice A n c, Value.slice A3 n3 c3] 22)) := below_new (below_then hb hb3') _
  refine ⟨_, rfl, ?_, below_then hB hb4⟩
  have := ho4.lower hB.size
  have e : ([(some (⟨w1.heap.size, 0, none⟩ : Addr), 1, 1, [93]), (A1, n1, c1, numB n), (A, n, c, xs), (A3, n3, c3, fourB s)].map (·.2.2.2)).flatten = frameB xs := by
    simp [frameB, HL.out, HCR.out]
  rw [e] at this
  exact this
end Go.Proofs.Ytcociocgoiofgaa
