/- wire: the sum. -/
import Derived.Test.YtnakanophilfhaaDoorRows
import Derived.Test.YtnakanophilfhaaDoorPure1
namespace Go.Proofs.YtnakanophilfhaaDoor
open Go.RowKit Go.Dio
set_option linter.unusedVariables false
set_option linter.unusedSimpArgs false

set_option maxRecDepth 100000 in
set_option maxHeartbeats 1000000 in
theorem sum_any (A : Option Addr) (n c : Nat) (xs : List UInt8) (w : World) (h : IsB w A n c xs) :
    Calls Tryd.prog 100 #[.slice A n c] w fun e w' => e = .returned (.int .i64 (crc xs)) ∧ w' = w := by
  have hl := hid h.len
  have hc := h.cap
  have hm := h.max
  have HS := hid (h.some)
  clear h
  obtain ⟨R, hR⟩ : ∃ R, R = crcR 4294967295 xs := ⟨_, rfl⟩
  have HR := hid hR; clear hR
  go_enter Tryd.func100, Tryd.ntmps100
  go_wp2
  go_loop [3, 5, 8, 16] (fun v3 v5 v8 v16 => ∃ i r : Nat, i ≤ n ∧ r < 4294967296 ∧ v8 = .int .i64 i ∧ v3 = .int .u32 r ∧ Hid (crcR r (xs.drop i) = R)) (fun _ _ v8 _ => n - (intOf v8).toNat)
  case atStart => exact ⟨0, 4294967295, by omega, by omega, rfl, rfl, hid (by rw [HR.out]; rfl)⟩
  case round =>
    obtain ⟨i, r, hi, hr, rfl, rfl, hrel⟩ := hrel
    by_cases hlt : i < n
    · obtain ⟨b, o, rfl, hcell⟩ := HS.out (by omega)
      have hc1 := hcell i hlt
      have H1 := hid hcell; clear hcell
      have g1 := gb_lo xs i
      have g2 := gb_hi xs i
      have hst := hid (crcR_drop xs i (by rw [hl.out]; exact hlt) r)
      generalize hg : gb xs i = g at *
      have HG := hid hg; clear hg
      obtain ⟨gn, rfl⟩ := Int.eq_ofNat_of_zero_le g1
      have hx := bits_xor32 r gn hr (by omega)
      have hq := xor_lt32 hr (show gn < 4294967296 by omega)
      rw [Int.toNat_natCast] at hst
      generalize hqe : r ^^^ gn = q at *
      have HQ := hid hqe; clear hqe
      go_wp2
      obtain ⟨R2, hR2⟩ : ∃ R2, R2 = crcBits 8 q := ⟨_, rfl⟩
      have HR2 := hid hR2; clear hR2 hx
      go_loop [3, 16] (fun v3 v16 => ∃ k r' : Nat, k ≤ 8 ∧ r' < 4294967296 ∧ v16 = .int .i64 k ∧ v3 = .int .u32 r' ∧ Hid (crcBits (8 - k) r' = R2)) (fun _ v16 => 8 - (intOf v16).toNat)
      case atStart => exact ⟨0, q, by omega, by omega, rfl, rfl, hid HR2.out.symm⟩
      case round =>
        obtain ⟨k, r', hk, hr', rfl, rfl, hrel2⟩ := hrel
        by_cases hk8 : k < 8
        · have hlt2 := crcBit_lt hr'
          obtain ⟨m, hm8⟩ : ∃ m, 8 - k = m + 1 := ⟨8 - k - 1, by omega⟩
          have HM := hid hm8; clear hm8
          by_cases hodd : r' % 2 = 1
          · have hand : bits .and .u32 (r' : Int) 1 = 1 := by rw [and_one32 r' hr', hodd]; rfl
            have HO := hid hodd; clear hodd
            go_wp2
            go_round
            case rel =>
              refine ⟨k + 1, crcBit r', by omega, hlt2, by go_num, ?_, hid ?_⟩
              · rw [show (3988292384 : Int) = ((3988292384 : Nat) : Int) from rfl, and_ones32 3988292384 (by omega), show ((r' : Int) / 2) = ((r' / 2 : Nat) : Int) from by omega, bits_xor32 _ _ (by omega) (by omega), crcBit, if_pos HO.out]
              · have := hrel2.out
                rw [HM.out] at this
                rw [show 8 - (k + 1) = m by have := HM.out; omega]
                exact this
            case measure => simp [intOf]; omega
          · have hand : bits .and .u32 (r' : Int) 1 = 0 := by rw [and_one32 r' hr', show r' % 2 = 0 by omega]; rfl
            have HO := hid hodd; clear hodd
            go_wp2
            go_round
            case rel =>
              refine ⟨k + 1, crcBit r', by omega, hlt2, by go_num, ?_, hid ?_⟩
              · rw [show (3988292384 : Int) = ((3988292384 : Nat) : Int) from rfl, and_zero32 3988292384 (by omega), show ((r' : Int) / 2) = ((r' / 2 : Nat) : Int) from by omega, show (0 : Int) = ((0 : Nat) : Int) from rfl, bits_xor32 _ _ (by omega) (by omega), crcBit, if_neg HO.out, Nat.xor_zero]
              · have := hrel2.out
                rw [HM.out] at this
                rw [show 8 - (k + 1) = m by have := HM.out; omega]
                exact this
            case measure => simp [intOf]; omega
        · go_wp2
          go_round
          case rel =>
            refine ⟨i + 1, r', by omega, hr', by go_num, rfl, hid ?_⟩
            have h1 := hrel.out
            rw [hst.out, HR2.out.symm] at h1
            have h2 := hrel2.out
            rw [show 8 - k = 0 by omega] at h2
            have h3 : r' = R2 := h2
            rw [h3]; exact h1
          case measure => simp [intOf]; omega
    · have hx : crcR r (xs.drop i) = r := by rw [List.drop_of_length_le (by rw [hl.out]; omega)]; rfl
      have hR2 := hrel.out
      rw [hx] at hR2
      have HX := hid hR2
      clear hR2 hx
      go_wp2
      go_ret
      refine ⟨ret_int ?_, rfl⟩
      rw [not_u32 r hr, crc, HX.out, HR.out]
end Go.Proofs.YtnakanophilfhaaDoor
