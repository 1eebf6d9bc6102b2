/- WireRot: the walk. -/
import Derived.Test.YtcociocgoiofgaaLaw1
import Derived.Test.YtcociocgoiofgaaPure3
namespace Go.Proofs.Ytcociocgoiofgaa
open Go.RowKit Go.Dio
set_option linter.unusedVariables false
set_option linter.unusedSimpArgs false

theorem tmod_bounds (a : Int) (L : Nat) (h : 0 < L) : -(L : Int) < a.tmod L ∧ a.tmod L < L := by
  have h1 := Int.tmod_lt_of_pos a (show (0 : Int) < L by omega)
  have h2 : -(L : Int) < a.tmod L := by
    have := Int.tmod_lt_of_pos (-a) (show (0 : Int) < L by omega)
    rw [Int.neg_tmod] at this; omega
  exact ⟨h2, h1⟩

set_option maxRecDepth 100000 in
set_option maxHeartbeats 2000000 in
theorem WireRot_walk (A : Option Addr) (n c : Nat) (xs : List UInt8) (a cc : Int) (w : World) (h : IsB w A n c xs) (ha : -9223372036854775808 ≤ a ∧ a ≤ 9223372036854775807) (hcc : 0 ≤ cc ∧ cc ≤ 255) :
    Calls Try.prog 4 #[.slice A n c, .int .i64 a, .int .u8 cc] w fun e w' => e = .returned (.bool true) ∧ Below w.heap.size w w' := by
  have hc := h.cap
  have hm := h.max
  by_cases hn : 2000 < n
  · clear h
    go_enter Try.func4, Try.ntmps4
    go_wp2_with fail
    refine (knows1_any _).mono ?_
    rintro e w1 ⟨rfl, hb⟩
    go_wp2_with fail
    go_ret
    exact ⟨rfl, hb⟩
  have hn5 : n ≤ 2000 := by omega
  have hL := frameB_len xs
  have hLn := h.len
  have hl7 := numB_le n (by omega)
  have hlp := numB_pos n
  rw [hLn] at hL
  have HH := hid h; clear h hn
  obtain ⟨L, hLL⟩ : ∃ L, L = (frameB xs).length := ⟨_, rfl⟩
  have hLb : 6 ≤ L ∧ L ≤ 3000 := by omega
  obtain ⟨hLb1, hLb2⟩ := hLb
  obtain ⟨ht1, ht2⟩ := tmod_bounds a L (by omega)
  have HLL := hid hLL
  have HA := hid ha
  obtain ⟨hcc1, hcc2⟩ := hcc
  have ha1 := ha.1
  have ha2 := ha.2
  clear hL hLL ha hl7 hlp
  have HLn := hid hLn; clear hLn
  go_enter Try.func4, Try.ntmps4
  go_wp2_with (at_builtin; refine wpList_append_b (w0 := w) w.heap.size rfl _ _ 22 5 rfl Try.underlying22 info_u8 _ n [] xs A c rfl rfl ?c1 (HH.out.below (below_alloc1 w _)) (below_alloc1 w _) ?c2 ?c3 ?_)
  case c1 => exact OwnB.lit _ w _ [] (Nat.le_refl _) (by simp)
  case c2 => simp
  case c3 => simp; omega
  intro v1 w1 ho hb hg hat
  clear hg hat
  obtain ⟨A1, n1, c1, rfl, h1, -⟩ := ho.form
  have H1 := hid h1
  have hw01 := hid hb.size
  have hn1 : n1 ≤ 2000 := by have q1 := h1.len; have q2 := HLn.out; omega
  clear h1 ho
  go_wp2_with fail
  refine (Frame_ok _ _ _ _ _ H1.out (by omega)).mono ?_
  rintro e w2 ⟨v2, rfl, ho2, hb2⟩
  have hB2 := hid (below_then hb hb2)
  clear hb hb2
  obtain ⟨A2, n2, c2, rfl, -, -⟩ := ho2.form
  have hn2 : L = n2 := by rw [HLL.out, ← ho2.len]
  subst hn2
  obtain ⟨g, rfl, hg1, hg2, hlc, hcm, -, hcell, hfz, hset⟩ := ho2.at2 (by omega)
  have hz1 : ((L : Int) == 0) = false := by simp; omega
  obtain ⟨j, hj⟩ : ∃ j : Nat, a.tmod L % L = (j : Int) := ⟨(a.tmod L % L).toNat, by
    have := Int.emod_nonneg (a.tmod L) (show (L : Int) ≠ 0 by omega); omega⟩
  have hjL : j < L := by
    have := Int.emod_lt_of_pos (a.tmod L) (show (0 : Int) < L by omega); omega
  have hc1 := hcell j hjL
  have hf1 := hfz j
  have hgb := gb_lo (frameB xs) j
  have hgh := gb_hi (frameB xs) j
  have hjF : j < (frameB xs).length := by have := HLL.out; omega
  obtain ⟨o1, g1⟩ := hset j (UInt8.ofNat cc.toNat)
  have hv : ((UInt8.ofNat cc.toNat).toNat : Int) = cc := by rw [UInt8.toNat_ofNat']; omega
  rw [hv] at o1 g1
  have HO1 := hid o1; have HG1 := hid g1
  have hgbv := hid (show gb (frameB xs) j = (((frameB xs)[j]'hjF).toNat : Int) by simp [gb, hjF])
  have hrot := hid (rot_told xs j (UInt8.ofNat cc.toNat) hjF)
  have herr := hid (unfL_err ((frameB xs).set j (UInt8.ofNat cc.toNat)))
  have HV := hid hv
  clear hcell hfz hset o1 g1 hv ho2
  generalize hp : gb (frameB xs) j = p at *
  have HP := hid hp; clear hp
  by_cases hpc : p = cc
  · have hpc1 : (p == cc) = true := by simp [hpc]
    clear hpc
    go_wp2_with (go_at_call 22; go_in)
    refine (knows1_any _).mono ?_
    rintro e w3 ⟨rfl, hb3⟩
    have HB := hid (below_then hB2.out hb3)
    clear hb3
    go_wp2_with fail
    go_ret
    exact ⟨rfl, HB.out⟩
  · have hpc1 : (p == cc) = false := by simp [hpc]
    have HPC := hid hpc
    clear hpc
    go_wp2_with (go_at_call 22; go_in)
    obtain ⟨A3, n3, c3, e3, h3, -⟩ := HO1.out.form
    cases e3
    refine (Unframe_any _ _ _ _ _ h3).mono ?_
    rintro e w3 ⟨v3, rfl, ho3, hb3⟩
    obtain ⟨A4, n4, c4, rfl, h4, -⟩ := ho3.form
    have h4l := hid h4.len
    have HB3 := hid (below_then (hB2.out.setCell (p := ⟨g, j, none⟩) (Nat.le_trans hw01.out hg1) (.int .u8 cc)) hb3)
    clear hb3 ho3 h4 h3
    rcases hU : unfL ((frameB xs).set j (UInt8.ofNat cc.toNat)) with ⟨i4, m4, e4⟩
    have HU := hid hU
    rw [hU] at h4l
    have h4l' : i4.length = n4 := h4l.out
    clear hU h4l
    have hne := hid (show e4 = 0 → m4 ≠ L from fun h0 hm => by
      have := HU.out
      rw [h0, hm, HLL.out] at this
      exact hrot.out (fun e => HPC.out (by first | exact HP.out.symm.trans (hgbv.out.trans (by rw [e, HV.out])) | exact hgbv.out.trans (by rw [e, HV.out]))) i4 this)
    by_cases he : e4 = 0
    · have hml := hne.out he
      subst he
      have hm1 : ((m4 : Int) != (L : Int)) = true := by rw [bne_iff_ne]; omega
      clear hml
      have H4 := hid h4l'; clear h4l'
      go_wp2_with (go_at_call 22; go_in)
      refine (knows1_any _).mono ?_
      rintro e w4 ⟨rfl, hb4⟩
      have HB4 := hid (below_then HB3.out hb4)
      clear hb4
      go_wp2_with fail
      go_ret
      exact ⟨rfl, HB4.out⟩
    · have q := herr.out
      rw [HU.out] at q
      obtain ⟨q1, q2⟩ := q he
      have q3 : i4 = [] := q1
      have q4 : m4 = 0 := q2
      subst q3 q4
      have hn4 : 0 = n4 := h4l'
      subst hn4
      clear q1 q2 h4l'
      have he1 : ((e4 : Int) == 0) = false := by simp; omega
      have he2 : ((e4 : Int) != 0) = true := by rw [bne_iff_ne]; omega
      clear he
      go_wp2_with (go_at_call 22; go_in)
      refine (knows1_any _).mono ?_
      rintro e w4 ⟨rfl, hb4⟩
      have HB4 := hid (below_then HB3.out hb4)
      clear hb4
      go_wp2_with fail
      go_ret
      exact ⟨rfl, HB4.out⟩

theorem WireRot_row (A : Option Addr) (n c : Nat) (xs : List UInt8) (a cc : Int) (w : World) (h : IsB w A n c xs) (_hn : n ≤ 140737488351232) (ha : (Lit.int .i64 a).wf = true) (hcc : (Lit.int .u8 cc).wf = true) :
    Calls Try.prog 4 #[.slice A n c, .int .i64 a, .int .u8 cc] w fun e w' => e = .returned (.bool true) ∧ Below w.heap.size w w' :=
  WireRot_walk A n c xs a cc w h (by simpa [Lit.wf, IntKind.min, IntKind.max, IntKind.signed, IntKind.bits] using ha) (by simpa [Lit.wf, IntKind.min, IntKind.max, IntKind.signed, IntKind.bits] using hcc)
end Go.Proofs.Ytcociocgoiofgaa
