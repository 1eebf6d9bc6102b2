/- Layer 3: a value of a reader. -/
import Derived.Test.YtnakanophilfhaaDoorVbA
namespace Go.Proofs.YtnakanophilfhaaDoor
open Go.RowKit Go.Dio
set_option linter.unusedVariables false
set_option linter.unusedSimpArgs false

/-- An error that is told. -/
def rFail (s : Rst) (e : Int) : Rst := (s.1, if s.2 = 0 then e else s.2)
theorem Fail_r (base rb : Nat) (s : Rst) (e : Int) (w : World) (h : RdrAt w base rb s) :
    Calls Tryd.prog 68 #[.pointer (some ⟨rb, 0, none⟩), .int .i64 e] w (RdrOut w base rb (.tuple #[]) (rFail s e)) := by
  have H := hid h
  obtain ⟨h1, A, n, c, h2, h3, h4⟩ := h
  have c1 : w.cell? ⟨rb, 1, none⟩ = some (.int .i64 s.2) := by simp [World.cell?, h2]
  have f1 : w.frozen? ⟨rb, 1, none⟩ = false := by simp [World.frozen?, h2]
  clear h2 h3 h4
  by_cases he : s.2 = 0
  · have hs : (s.2 != 0) = false := by simp [he]
    have HE := hid (show rFail s e = (s.1, e) by rw [rFail, if_pos he])
    go_enter Tryd.func68, Tryd.ntmps68
    go_wp2_with fail
    refine (none_any base rb s _ H.out).mono ?_
    rw [hs]
    rintro e w' ⟨rfl, rfl⟩
    clear he hs
    go_wp2_with fail
    simp only [bodyPost]
    rw [HE.out]
    exact ⟨trivial, .tuple #[], by simp [results, show Tryd.f68.results = #[] from rfl, go_sem], rfl, H.out.setE e, grown_set w rb 1 _⟩
  · have hs : (s.2 != 0) = true := by simp [he]
    have HE := hid (show rFail s e = s by rw [rFail, if_neg he])
    go_enter Tryd.func68, Tryd.ntmps68
    go_wp2_with fail
    refine (none_any base rb s _ H.out).mono ?_
    rw [hs]
    rintro e w' ⟨rfl, rfl⟩
    go_wp2_with fail
    simp only [bodyPost]
    rw [HE.out]
    exact ⟨trivial, .tuple #[], by simp [results, show Tryd.f68.results = #[] from rfl, go_sem], rfl, H.out, World.grownBy.refl _ _⟩

/-- Back from the sign in the last bit. -/
def unzig (m : Int) : Int := if m % 2 = 0 then m / 2 else -(m / 2) - 1
theorem unzig_zig (n : Int) : unzig (zig n) = n := by unfold unzig zig; split <;> split <;> omega
theorem and1 (m : Int) (h : 0 ≤ m) (h' : m < 281474976710656) : bits .and .i64 m 1 = m % 2 := by
  obtain ⟨k, rfl⟩ := Int.eq_ofNat_of_zero_le h
  have e1 : (BitVec.ofInt IntKind.i64.bits (k : Int)).toNat = k := by
    rw [BitVec.ofInt_natCast, BitVec.toNat_ofNat]; exact Nat.mod_eq_of_lt (Nat.lt_trans (show k < 281474976710656 by omega) (by decide))
  have e2 : (BitVec.ofInt IntKind.i64.bits 1).toNat = 1 := by decide
  simp only [bits, BitVec.toNat_and, e1, e2]
  rw [Nat.and_one_is_mod, IntKind.wrap_i64]
  omega
theorem xor0 (m : Int) (h : 0 ≤ m) (h' : m < 281474976710656) : bits .xor .i64 m 0 = m := by
  obtain ⟨k, rfl⟩ := Int.eq_ofNat_of_zero_le h
  have := bits_xor64 k 0 (by omega) (by omega)
  rw [Nat.xor_zero] at this
  exact this
theorem xor1 (m : Int) (h : 0 ≤ m) (h' : m < 281474976710656) : bits .xor .i64 m (-1) = -m - 1 := by
  obtain ⟨k, rfl⟩ := Int.eq_ofNat_of_zero_le h
  have e1 : BitVec.ofInt IntKind.i64.bits (-1) = BitVec.allOnes IntKind.i64.bits := by decide
  have e2 : (BitVec.ofInt IntKind.i64.bits (k : Int)).toNat = k := by
    rw [BitVec.ofInt_natCast, BitVec.toNat_ofNat]; exact Nat.mod_eq_of_lt (Nat.lt_trans (show k < 281474976710656 by omega) (by decide))
  simp only [bits]
  rw [e1, BitVec.xor_allOnes, BitVec.toNat_not, e2]
  show IntKind.i64.wrap (((2 ^ 64 - 1 - k : Nat)) : Int) = _
  rw [IntKind.wrap_i64]
  omega

/-- What is read of a value, unlooked at. -/
def vRead (s : Rst) : (Int × Int × ByteArray) × Rst :=
  if (rUpto 281474976710655 s).1 = 1 ∨ (rUpto 281474976710655 s).1 = 2 then (((rUpto 281474976710655 s).1, unzig (rUpto 281474976710655 (rUpto 281474976710655 s).2).1, ⟨#[]⟩), (rUpto 281474976710655 (rUpto 281474976710655 s).2).2)
  else if (rUpto 281474976710655 s).1 = 4 then ((4, (rUpto 281474976710655 (rUpto 281474976710655 s).2).1, ⟨#[]⟩), (rUpto 281474976710655 (rUpto 281474976710655 s).2).2)
  else if (rUpto 281474976710655 s).1 = 3 then ((3, 0, mkS (rText (rUpto 281474976710655 s).2).1), (rText (rUpto 281474976710655 s).2).2)
  else (((rUpto 281474976710655 s).1, 0, ⟨#[]⟩), (rUpto 281474976710655 s).2)
/-- What the look makes of it. -/
def vLook (v : Int × Int × ByteArray) (s : Rst) : (Int × Int × ByteArray) × Rst :=
  if vright v.1 v.2.1 v.2.2 = true then (if s.2 = 0 then (v, s) else ((0, 0, ⟨#[]⟩), s)) else ((0, 0, ⟨#[]⟩), rFail s 21)
def tVal (s : Rst) : (Int × Int × ByteArray) × Rst := vLook (vRead s).1 (vRead s).2
theorem rUpto_range (s : Rst) (most : Int) (hm : 0 ≤ most) : 0 ≤ (rUpto most s).1 ∧ (rUpto most s).1 ≤ most := by
  unfold rUpto
  split
  · exact ⟨Int.le_refl _, hm⟩
  split
  · exact ⟨Int.le_refl _, hm⟩
  split
  · exact ⟨Int.le_refl _, hm⟩
  · simp only; omega
theorem tVal_vB (k n : Int) (s : ByteArray) (u : List UInt8) (h : vright k n s = true) : tVal (vB k n s ++ u, 0) = ((k, n, s), (u, 0)) := by
  have key : vRead (vB k n s ++ u, 0) = ((k, n, s), (u, 0)) := by
    rcases vright_cases h with ⟨rfl, rfl, rfl⟩ | ⟨hk, hn, rfl⟩ | ⟨rfl, rfl, hg⟩ | ⟨rfl, hn, rfl⟩
    · have e : rUpto 281474976710655 (vB 0 0 ⟨#[]⟩ ++ u, 0) = (0, (u, 0)) := by
        have : vB 0 0 ⟨#[]⟩ ++ u = numB 0 ++ u := by simp [vB]
        rw [this, rUpto_numB 0 _ _ (by omega) (by omega)]; rfl
      simp [vRead, e]
    · have hz : 0 ≤ zig n ∧ zig n < 281474976710656 := by unfold zig; split <;> constructor <;> omega
      have e : rUpto 281474976710655 (vB k n ⟨#[]⟩ ++ u, 0) = (k, (numB (zig n).toNat ++ u, 0)) := by
        have : vB k n ⟨#[]⟩ ++ u = numB k.toNat ++ (numB (zig n).toNat ++ u) := by rw [vB, if_pos hk, List.append_assoc]
        rw [this, rUpto_numB k.toNat _ _ (by omega) (by omega), Int.toNat_of_nonneg (by omega)]
      have e2 : rUpto 281474976710655 (numB (zig n).toNat ++ u, 0) = (zig n, (u, 0)) := by
        rw [rUpto_numB _ _ _ (by omega) (by omega), Int.toNat_of_nonneg hz.1]
      simp only [vRead, e, e2, if_pos hk, unzig_zig]
    · have hsz := goodB_len hg
      have e : rUpto 281474976710655 (vB 3 0 s ++ u, 0) = (3, (textB s.data.toList ++ u, 0)) := by
        have : vB 3 0 s ++ u = numB 3 ++ (textB s.data.toList ++ u) := by simp [vB]
        rw [this, rUpto_numB 3 _ _ (by omega) (by omega)]; rfl
      have e2 := rText_textB s.data.toList u (by rw [Array.length_toList]; have : s.data.size = s.size := rfl; omega)
      simp [vRead, e, e2, mkS_data]
    · have e : rUpto 281474976710655 (vB 4 n ⟨#[]⟩ ++ u, 0) = (4, (numB n.toNat ++ u, 0)) := by
        have : vB 4 n ⟨#[]⟩ ++ u = numB 4 ++ (numB n.toNat ++ u) := by simp [vB]
        rw [this, rUpto_numB 4 _ _ (by omega) (by omega)]; rfl
      have e2 : rUpto 281474976710655 (numB n.toNat ++ u, 0) = (n, (u, 0)) := by
        rw [rUpto_numB _ _ _ (by omega) (by omega), Int.toNat_of_nonneg (by omega)]
      simp [vRead, e, e2]
  unfold tVal vLook
  rw [key]
  simp only [h, if_true]

theorem VAt.grown {w w' : World} {b rb : Nat} {k n : Int} {s : ByteArray} (h : VAt w b k n s) (hb : w.grownBy w' (some rb)) (hn : b ≠ rb) : VAt w' b k n s := ⟨by rw [hb.block b h.lt (fun e => hn (by cases e; rfl))]; exact h.own⟩
theorem VAt.set1 {w : World} {b : Nat} {k n : Int} {s : ByteArray} (h : VAt w b k n s) (m : Int) : VAt (w.setCell ⟨b, 1, none⟩ (.int .i64 m)) b k m s := ⟨by simp [World.setCell, Array.getElem?_modify, h.own]⟩
theorem VAt.set2 {w : World} {b : Nat} {k n : Int} {s : ByteArray} (h : VAt w b k n s) (t : ByteArray) : VAt (w.setCell ⟨b, 2, none⟩ (.string t)) b k n t := ⟨by simp [World.setCell, Array.getElem?_modify, h.own]⟩
theorem VAt.off {w : World} {b : Nat} {k n : Int} {s : ByteArray} (h : VAt w b k n s) (b' i : Nat) (u : Value) (hne : b ≠ b') : VAt (w.setCell ⟨b', i, none⟩ u) b k n s := ⟨by rw [Below.heap_setCell w ⟨b', i, none⟩ u b hne]; exact h.own⟩
theorem vo_cells (k n : Int) (s : ByteArray) (i : Nat) (x : Int) : (#[Value.int .i64 k, .int .i64 n, .string s])[i]? ≠ some (.int .u8 x) := by
  match i with
  | 0 => simp
  | 1 => simp
  | 2 => simp
  | i + 3 => simp

theorem vLook_no {k n : Int} {t : ByteArray} {s : Rst} (h : vright k n t = false) : vLook (k, n, t) s = ((0, 0, ⟨#[]⟩), rFail s 21) := by
  unfold vLook; simp only; rw [if_neg (by simp [h])]
theorem vLook_ok {k n : Int} {t : ByteArray} {s : Rst} (h : vright k n t = true) (h0 : s.2 = 0) : vLook (k, n, t) s = ((k, n, t), s) := by
  unfold vLook; simp only; rw [if_pos h, if_pos h0]
theorem vLook_err {k n : Int} {t : ByteArray} {s : Rst} (h : vright k n t = true) (h0 : ¬ s.2 = 0) : vLook (k, n, t) s = ((0, 0, ⟨#[]⟩), s) := by
  unfold vLook; simp only; rw [if_pos h, if_neg h0]
theorem rFail_ne (s : Rst) : ((rFail s 21).2 == 0) = false := by
  unfold rFail
  simp only [beq_eq_false_iff_ne]
  split
  · decide
  · assumption
theorem grown_then {w W V : World} {r : Option Nat} (h : w.grownBy W r) (hb : Below W.heap.size W V) : w.grownBy V r :=
  ⟨hb.os.trans h.os, hb.tape.trans h.tape, hb.output.trans h.output, Nat.le_trans h.size hb.size, fun k hk hr => (hb.block k (Nat.lt_of_lt_of_le hk h.size)).trans (h.block k hk hr)⟩
theorem rText_res (s : Rst) : (rText s).1.length ≤ s.1.length := by
  unfold rText
  split
  · exact Nat.zero_le _
  split
  · exact Nat.zero_le _
  split
  · exact Nat.zero_le _
  split
  · exact Nat.zero_le _
  · simp; omega

set_option maxRecDepth 100000 in
set_option maxHeartbeats 8000000 in
theorem VTake_any (base rb : Nat) (s : Rst) (w : World) (h : RdrAt w base rb s) (hlen : s.1.length ≤ 9223372036854775807) :
    Calls Tryd.prog 67 #[.pointer (some ⟨rb, 0, none⟩)] w (RdrOut w base rb (vv (tVal s).1.1 (tVal s).1.2.1 (tVal s).1.2.2) (tVal s).2) := by
  have hlt := h.lt
  have R0 := hid (h.below (below_alloc1 w (vo 0 0 ⟨#[]⟩)))
  have Z0 := hid (VAt.new w 0 0 ⟨#[]⟩ _ rfl)
  have G0 := hid (grown_alloc (World.grownBy.refl w (some rb)) (vo 0 0 ⟨#[]⟩))
  clear h
  have hk := rUpto_range s 281474976710655 (by omega)
  have hl1 := rUpto_len 281474976710655 s
  have HT := hid (show tVal s = vLook (vRead s).1 (vRead s).2 from rfl)
  have HV := hid (show vRead s = if (rUpto 281474976710655 s).1 = 1 ∨ (rUpto 281474976710655 s).1 = 2 then (((rUpto 281474976710655 s).1, unzig (rUpto 281474976710655 (rUpto 281474976710655 s).2).1, ⟨#[]⟩), (rUpto 281474976710655 (rUpto 281474976710655 s).2).2)
  else if (rUpto 281474976710655 s).1 = 4 then ((4, (rUpto 281474976710655 (rUpto 281474976710655 s).2).1, ⟨#[]⟩), (rUpto 281474976710655 (rUpto 281474976710655 s).2).2)
  else if (rUpto 281474976710655 s).1 = 3 then ((3, 0, mkS (rText (rUpto 281474976710655 s).2).1), (rText (rUpto 281474976710655 s).2).2)
  else (((rUpto 281474976710655 s).1, 0, ⟨#[]⟩), (rUpto 281474976710655 s).2) from rfl)
  rcases h1 : rUpto 281474976710655 s with ⟨k, s1⟩
  rw [h1] at HV hk hl1
  have H1 := hid h1
  clear h1
  dsimp only at HV hk hl1
  have hks : k = 0 ∨ k = 1 ∨ k = 2 ∨ k = 3 ∨ k = 4 ∨ ((k == 1) = false ∧ (k == 2) = false ∧ (k == 3) = false ∧ (k == 4) = false ∧ k ≠ 0) := by
    simp only [beq_eq_false_iff_ne]; omega
  have HKS := hid hks
  clear hks
  go_enter Tryd.func67, Tryd.ntmps67
  go_wp2_with fail
  refine (Num_r base rb s _ R0.out).mono ?_
  rw [H1.out]
  rintro e w1 ⟨rfl, hr, hg⟩
  have R1 := hid (hr.below (below_alloc1 w1 (vo k 0 ⟨#[]⟩)))
  have Z1 := hid ((Z0.out.grown hg (by omega)).below (below_alloc1 w1 (vo k 0 ⟨#[]⟩)))
  have G1 := hid (grown_alloc (grown_trans G0.out hg) (vo k 0 ⟨#[]⟩))
  have V1 := hid (VAt.new w1 k 0 ⟨#[]⟩ _ rfl)
  have l1 : w.heap.size < w1.heap.size := (Z0.out.grown hg (by omega)).lt
  have l2 : rb < w1.heap.size := hr.lt
  clear hr hg
  dsimp only
  have v0 := V1.out.c0; have v1 := V1.out.c1; have v2 := V1.out.c2
  rcases HKS.out with rfl | rfl | rfl | rfl | rfl | ⟨e1, e2, e3, e4, e0⟩
  · skip
    have hv : vRead s = ((0, 0, ⟨#[]⟩), s1) := HV.out.trans (by rw [if_neg (by decide), if_neg (by decide), if_neg (by decide)])
    have HT3 := hid (HT.out.trans (by rw [hv]))
    have R3 := hid R1.out; have Z3 := hid Z1.out; have G3 := hid G1.out; have V3 := hid V1.out
    have hsz : (⟨#[]⟩ : ByteArray).size ≤ 9223372036854775807 := by decide
    clear hv
    go_wp2_with fail
    clear v0 v1 v2
    refine (VRight_any 0 0 ⟨#[]⟩ _ hsz).mono ?_
    rcases hvr : vright 0 0 ⟨#[]⟩ with _ | _
    · rintro e w4 ⟨rfl, hb⟩
      have HVR := hid hvr
      have R4 := hid (R3.out.below hb)
      have Z4 := hid (Z3.out.below hb)
      have G4 := hid (grown_then G3.out hb)
      clear hb hvr
      go_wp2_with fail
      refine (Fail_r base rb s1 21 _ R4.out).mono ?_
      rintro e w5 ⟨rfl, hr, hg⟩
      have R5 := hid hr
      have Z5 := hid (Z4.out.grown hg (by omega))
      have G5 := hid (grown_trans G4.out hg)
      clear hr hg
      go_wp2_with fail
      refine (Err_r base rb (rFail s1 21) _ R5.out).mono ?_
      rintro e w6 ⟨rfl, rfl⟩
      have hne := rFail_ne s1
      generalize hrf : (rFail s1 21).2 = er at *
      have HRF := hid hrf
      clear hrf
      have f0 := Z5.out.fz 0; have f1 := Z5.out.fz 1; have f2 := Z5.out.fz 2
      have z0 := Z5.out.c0; have z1 := Z5.out.c1; have z2 := Z5.out.c2
      have hlz := Z5.out.lt
      go_wp2_with fail
      (try simp only [Exit.inBlock, Exit.then]); refine bodyPost_ret (v := vv 0 0 ⟨#[]⟩) (by simp [results, show Tryd.f67.results = #[.cell 2 26] from rfl, go_sem, *]) rfl ?_
      rw [HT3.out, vLook_no HVR.out]
      refine ⟨rfl, R5.out.other Z5.out.own (vo_cells _ _ _) (by omega) (fun k hk _ => ?_), ?_⟩
      · rw [Below.heap_setCell _ ⟨w.heap.size, 2, none⟩ _ k hk, Below.heap_setCell _ ⟨w.heap.size, 1, none⟩ _ k hk, Below.heap_setCell _ ⟨w.heap.size, 0, none⟩ _ k hk]
      · repeat' first | exact G5.out | refine grown_put ?_ _ _ _ (.inl (Nat.le_refl _))
    · rintro e w4 ⟨rfl, hb⟩
      have HVR := hid hvr
      have R4 := hid (R3.out.below hb)
      have Z4 := hid (Z3.out.below hb)
      have V4 := hid (V3.out.below hb)
      have G4 := hid (grown_then G3.out hb)
      clear hb hvr
      go_wp2_with fail
      refine (Err_r base rb s1 _ R4.out).mono ?_
      rintro e w5 ⟨rfl, rfl⟩
      have f0 := Z4.out.fz 0; have f1 := Z4.out.fz 1; have f2 := Z4.out.fz 2
      have z0 := Z4.out.c0; have z1 := Z4.out.c1; have z2 := Z4.out.c2
      have hlz := Z4.out.lt
      have x0 := V4.out.c0; have x1 := V4.out.c1; have x2 := V4.out.c2
      by_cases he : s1.2 = 0
      · have HE := hid he
        have he' : (s1.2 == 0) = true := by simp [he]
        clear he
        go_wp2_with fail
        (try simp only [Exit.inBlock, Exit.then]); refine bodyPost_ret (v := vv 0 0 ⟨#[]⟩) (by simp [results, show Tryd.f67.results = #[.cell 2 26] from rfl, go_sem, *]) rfl ?_
        rw [HT3.out, vLook_ok HVR.out HE.out]
        refine ⟨rfl, R4.out.other Z4.out.own (vo_cells _ _ _) (by omega) (fun k hk _ => ?_), ?_⟩
        · rw [Below.heap_setCell _ ⟨w.heap.size, 2, none⟩ _ k hk, Below.heap_setCell _ ⟨w.heap.size, 1, none⟩ _ k hk, Below.heap_setCell _ ⟨w.heap.size, 0, none⟩ _ k hk]
        · repeat' first | exact G4.out | refine grown_put ?_ _ _ _ (.inl (Nat.le_refl _))
      · have HE := hid he
        have he' : (s1.2 == 0) = false := by simp [he]
        have he2 : (s1.2 != 0) = true := by simp [he]
        clear he
        go_wp2_with fail
        (try simp only [Exit.inBlock, Exit.then]); refine bodyPost_ret (v := vv 0 0 ⟨#[]⟩) (by simp [results, show Tryd.f67.results = #[.cell 2 26] from rfl, go_sem, *]) rfl ?_
        rw [HT3.out, vLook_err HVR.out HE.out]
        refine ⟨rfl, R4.out.other Z4.out.own (vo_cells _ _ _) (by omega) (fun k hk _ => ?_), ?_⟩
        · rw [Below.heap_setCell _ ⟨w.heap.size, 2, none⟩ _ k hk, Below.heap_setCell _ ⟨w.heap.size, 1, none⟩ _ k hk, Below.heap_setCell _ ⟨w.heap.size, 0, none⟩ _ k hk]
        · repeat' first | exact G4.out | refine grown_put ?_ _ _ _ (.inl (Nat.le_refl _))
  · skip
    have hm := rUpto_range s1 281474976710655 (by omega)
    rcases hu : rUpto 281474976710655 s1 with ⟨m, s2⟩
    rw [hu] at HV hm
    have HU := hid hu
    clear hu
    dsimp only at HV hm
    go_wp2_with fail
    refine (Num_r base rb s1 _ R1.out).mono ?_
    rw [HU.out]
    rintro e w2 ⟨rfl, hr, hg⟩
    have R2 := hid hr
    have Z2 := hid (Z1.out.grown hg (by omega))
    have V2 := hid (V1.out.grown hg (by omega))
    have G2 := hid (grown_trans G1.out hg)
    clear hr hg v0 v1 v2
    have v0 := V2.out.c0; have v1 := V2.out.c1; have v2 := V2.out.c2
    have g1 := V2.out.fz 1
    have hlv := V2.out.lt
    have hsz : (⟨#[]⟩ : ByteArray).size ≤ 9223372036854775807 := by decide
    dsimp only
    have hv : vRead s = ((1, unzig m, ⟨#[]⟩), s2) := HV.out.trans (by rw [if_pos (by decide)])
    have ha := and1 m hm.1 (by omega)
    by_cases hm2 : m % 2 = 0
    · have hzz : unzig m = m / 2 := if_pos hm2
      have hx := xor0 (m / 2) (by omega) (by omega)
      have HT3 := hid (HT.out.trans (by rw [hv, hzz]))
      rw [hm2] at ha
      clear hv hzz
      have R3 := hid (R2.out.other (w' := w2.setCell ⟨w1.heap.size, 1, none⟩ (.int .i64 (m / 2))) V2.out.own (vo_cells _ _ _) (by omega) (fun k hk _ => Below.heap_setCell _ _ _ k hk))
      have Z3 := hid (Z2.out.off w1.heap.size 1 (.int .i64 (m / 2)) (by omega))
      have V3 := hid (V2.out.set1 (m / 2))
      have G3 := hid (grown_put G2.out w1.heap.size 1 (.int .i64 (m / 2)) (.inl (by omega)))
      go_wp2_with fail
      generalize w2.setCell ⟨w1.heap.size, 1, none⟩ (Value.int .i64 (m / 2)) = W at *
      clear v0 v1 v2
      refine (VRight_any 1 (m / 2) ⟨#[]⟩ _ hsz).mono ?_
      rcases hvr : vright 1 (m / 2) ⟨#[]⟩ with _ | _
      · rintro e w4 ⟨rfl, hb⟩
        have HVR := hid hvr
        have R4 := hid (R3.out.below hb)
        have Z4 := hid (Z3.out.below hb)
        have G4 := hid (grown_then G3.out hb)
        clear hb hvr
        go_wp2_with fail
        refine (Fail_r base rb s2 21 _ R4.out).mono ?_
        rintro e w5 ⟨rfl, hr, hg⟩
        have R5 := hid hr
        have Z5 := hid (Z4.out.grown hg (by omega))
        have G5 := hid (grown_trans G4.out hg)
        clear hr hg
        go_wp2_with fail
        refine (Err_r base rb (rFail s2 21) _ R5.out).mono ?_
        rintro e w6 ⟨rfl, rfl⟩
        have hne := rFail_ne s2
        generalize hrf : (rFail s2 21).2 = er at *
        have HRF := hid hrf
        clear hrf
        have f0 := Z5.out.fz 0; have f1 := Z5.out.fz 1; have f2 := Z5.out.fz 2
        have z0 := Z5.out.c0; have z1 := Z5.out.c1; have z2 := Z5.out.c2
        have hlz := Z5.out.lt
        go_wp2_with fail
        (try simp only [Exit.inBlock, Exit.then]); refine bodyPost_ret (v := vv 0 0 ⟨#[]⟩) (by simp [results, show Tryd.f67.results = #[.cell 2 26] from rfl, go_sem, *]) rfl ?_
        rw [HT3.out, vLook_no HVR.out]
        refine ⟨rfl, R5.out.other Z5.out.own (vo_cells _ _ _) (by omega) (fun k hk _ => ?_), ?_⟩
        · rw [Below.heap_setCell _ ⟨w.heap.size, 2, none⟩ _ k hk, Below.heap_setCell _ ⟨w.heap.size, 1, none⟩ _ k hk, Below.heap_setCell _ ⟨w.heap.size, 0, none⟩ _ k hk]
        · repeat' first | exact G5.out | refine grown_put ?_ _ _ _ (.inl (Nat.le_refl _))
      · rintro e w4 ⟨rfl, hb⟩
        have HVR := hid hvr
        have R4 := hid (R3.out.below hb)
        have Z4 := hid (Z3.out.below hb)
        have V4 := hid (V3.out.below hb)
        have G4 := hid (grown_then G3.out hb)
        clear hb hvr
        go_wp2_with fail
        refine (Err_r base rb s2 _ R4.out).mono ?_
        rintro e w5 ⟨rfl, rfl⟩
        have f0 := Z4.out.fz 0; have f1 := Z4.out.fz 1; have f2 := Z4.out.fz 2
        have z0 := Z4.out.c0; have z1 := Z4.out.c1; have z2 := Z4.out.c2
        have hlz := Z4.out.lt
        have x0 := V4.out.c0; have x1 := V4.out.c1; have x2 := V4.out.c2
        by_cases he : s2.2 = 0
        · have HE := hid he
          have he' : (s2.2 == 0) = true := by simp [he]
          clear he
          go_wp2_with fail
          (try simp only [Exit.inBlock, Exit.then]); refine bodyPost_ret (v := vv 1 (m / 2) ⟨#[]⟩) (by simp [results, show Tryd.f67.results = #[.cell 2 26] from rfl, go_sem, *]) rfl ?_
          rw [HT3.out, vLook_ok HVR.out HE.out]
          refine ⟨rfl, R4.out.other Z4.out.own (vo_cells _ _ _) (by omega) (fun k hk _ => ?_), ?_⟩
          · rw [Below.heap_setCell _ ⟨w.heap.size, 2, none⟩ _ k hk, Below.heap_setCell _ ⟨w.heap.size, 1, none⟩ _ k hk, Below.heap_setCell _ ⟨w.heap.size, 0, none⟩ _ k hk]
          · repeat' first | exact G4.out | refine grown_put ?_ _ _ _ (.inl (Nat.le_refl _))
        · have HE := hid he
          have he' : (s2.2 == 0) = false := by simp [he]
          have he2 : (s2.2 != 0) = true := by simp [he]
          clear he
          go_wp2_with fail
          (try simp only [Exit.inBlock, Exit.then]); refine bodyPost_ret (v := vv 0 0 ⟨#[]⟩) (by simp [results, show Tryd.f67.results = #[.cell 2 26] from rfl, go_sem, *]) rfl ?_
          rw [HT3.out, vLook_err HVR.out HE.out]
          refine ⟨rfl, R4.out.other Z4.out.own (vo_cells _ _ _) (by omega) (fun k hk _ => ?_), ?_⟩
          · rw [Below.heap_setCell _ ⟨w.heap.size, 2, none⟩ _ k hk, Below.heap_setCell _ ⟨w.heap.size, 1, none⟩ _ k hk, Below.heap_setCell _ ⟨w.heap.size, 0, none⟩ _ k hk]
          · repeat' first | exact G4.out | refine grown_put ?_ _ _ _ (.inl (Nat.le_refl _))
    · have hm3 : m % 2 = 1 := by omega
      have hzz : unzig m = -(m / 2) - 1 := if_neg hm2
      have hx := xor1 (m / 2) (by omega) (by omega)
      have HT3 := hid (HT.out.trans (by rw [hv, hzz]))
      rw [hm3] at ha
      clear hv hzz hm2
      have R3 := hid (R2.out.other (w' := w2.setCell ⟨w1.heap.size, 1, none⟩ (.int .i64 (-(m / 2) - 1))) V2.out.own (vo_cells _ _ _) (by omega) (fun k hk _ => Below.heap_setCell _ _ _ k hk))
      have Z3 := hid (Z2.out.off w1.heap.size 1 (.int .i64 (-(m / 2) - 1)) (by omega))
      have V3 := hid (V2.out.set1 (-(m / 2) - 1))
      have G3 := hid (grown_put G2.out w1.heap.size 1 (.int .i64 (-(m / 2) - 1)) (.inl (by omega)))
      go_wp2_with fail
      generalize w2.setCell ⟨w1.heap.size, 1, none⟩ (Value.int .i64 (-(m / 2) - 1)) = W at *
      clear v0 v1 v2
      refine (VRight_any 1 (-(m / 2) - 1) ⟨#[]⟩ _ hsz).mono ?_
      rcases hvr : vright 1 (-(m / 2) - 1) ⟨#[]⟩ with _ | _
      · rintro e w4 ⟨rfl, hb⟩
        have HVR := hid hvr
        have R4 := hid (R3.out.below hb)
        have Z4 := hid (Z3.out.below hb)
        have G4 := hid (grown_then G3.out hb)
        clear hb hvr
        go_wp2_with fail
        refine (Fail_r base rb s2 21 _ R4.out).mono ?_
        rintro e w5 ⟨rfl, hr, hg⟩
        have R5 := hid hr
        have Z5 := hid (Z4.out.grown hg (by omega))
        have G5 := hid (grown_trans G4.out hg)
        clear hr hg
        go_wp2_with fail
        refine (Err_r base rb (rFail s2 21) _ R5.out).mono ?_
        rintro e w6 ⟨rfl, rfl⟩
        have hne := rFail_ne s2
        generalize hrf : (rFail s2 21).2 = er at *
        have HRF := hid hrf
        clear hrf
        have f0 := Z5.out.fz 0; have f1 := Z5.out.fz 1; have f2 := Z5.out.fz 2
        have z0 := Z5.out.c0; have z1 := Z5.out.c1; have z2 := Z5.out.c2
        have hlz := Z5.out.lt
        go_wp2_with fail
        (try simp only [Exit.inBlock, Exit.then]); refine bodyPost_ret (v := vv 0 0 ⟨#[]⟩) (by simp [results, show Tryd.f67.results = #[.cell 2 26] from rfl, go_sem, *]) rfl ?_
        rw [HT3.out, vLook_no HVR.out]
        refine ⟨rfl, R5.out.other Z5.out.own (vo_cells _ _ _) (by omega) (fun k hk _ => ?_), ?_⟩
        · rw [Below.heap_setCell _ ⟨w.heap.size, 2, none⟩ _ k hk, Below.heap_setCell _ ⟨w.heap.size, 1, none⟩ _ k hk, Below.heap_setCell _ ⟨w.heap.size, 0, none⟩ _ k hk]
        · repeat' first | exact G5.out | refine grown_put ?_ _ _ _ (.inl (Nat.le_refl _))
      · rintro e w4 ⟨rfl, hb⟩
        have HVR := hid hvr
        have R4 := hid (R3.out.below hb)
        have Z4 := hid (Z3.out.below hb)
        have V4 := hid (V3.out.below hb)
        have G4 := hid (grown_then G3.out hb)
        clear hb hvr
        go_wp2_with fail
        refine (Err_r base rb s2 _ R4.out).mono ?_
        rintro e w5 ⟨rfl, rfl⟩
        have f0 := Z4.out.fz 0; have f1 := Z4.out.fz 1; have f2 := Z4.out.fz 2
        have z0 := Z4.out.c0; have z1 := Z4.out.c1; have z2 := Z4.out.c2
        have hlz := Z4.out.lt
        have x0 := V4.out.c0; have x1 := V4.out.c1; have x2 := V4.out.c2
        by_cases he : s2.2 = 0
        · have HE := hid he
          have he' : (s2.2 == 0) = true := by simp [he]
          clear he
          go_wp2_with fail
          (try simp only [Exit.inBlock, Exit.then]); refine bodyPost_ret (v := vv 1 (-(m / 2) - 1) ⟨#[]⟩) (by simp [results, show Tryd.f67.results = #[.cell 2 26] from rfl, go_sem, *]) rfl ?_
          rw [HT3.out, vLook_ok HVR.out HE.out]
          refine ⟨rfl, R4.out.other Z4.out.own (vo_cells _ _ _) (by omega) (fun k hk _ => ?_), ?_⟩
          · rw [Below.heap_setCell _ ⟨w.heap.size, 2, none⟩ _ k hk, Below.heap_setCell _ ⟨w.heap.size, 1, none⟩ _ k hk, Below.heap_setCell _ ⟨w.heap.size, 0, none⟩ _ k hk]
          · repeat' first | exact G4.out | refine grown_put ?_ _ _ _ (.inl (Nat.le_refl _))
        · have HE := hid he
          have he' : (s2.2 == 0) = false := by simp [he]
          have he2 : (s2.2 != 0) = true := by simp [he]
          clear he
          go_wp2_with fail
          (try simp only [Exit.inBlock, Exit.then]); refine bodyPost_ret (v := vv 0 0 ⟨#[]⟩) (by simp [results, show Tryd.f67.results = #[.cell 2 26] from rfl, go_sem, *]) rfl ?_
          rw [HT3.out, vLook_err HVR.out HE.out]
          refine ⟨rfl, R4.out.other Z4.out.own (vo_cells _ _ _) (by omega) (fun k hk _ => ?_), ?_⟩
          · rw [Below.heap_setCell _ ⟨w.heap.size, 2, none⟩ _ k hk, Below.heap_setCell _ ⟨w.heap.size, 1, none⟩ _ k hk, Below.heap_setCell _ ⟨w.heap.size, 0, none⟩ _ k hk]
          · repeat' first | exact G4.out | refine grown_put ?_ _ _ _ (.inl (Nat.le_refl _))
  · skip
    have hm := rUpto_range s1 281474976710655 (by omega)
    rcases hu : rUpto 281474976710655 s1 with ⟨m, s2⟩
    rw [hu] at HV hm
    have HU := hid hu
    clear hu
    dsimp only at HV hm
    go_wp2_with fail
    refine (Num_r base rb s1 _ R1.out).mono ?_
    rw [HU.out]
    rintro e w2 ⟨rfl, hr, hg⟩
    have R2 := hid hr
    have Z2 := hid (Z1.out.grown hg (by omega))
    have V2 := hid (V1.out.grown hg (by omega))
    have G2 := hid (grown_trans G1.out hg)
    clear hr hg v0 v1 v2
    have v0 := V2.out.c0; have v1 := V2.out.c1; have v2 := V2.out.c2
    have g1 := V2.out.fz 1
    have hlv := V2.out.lt
    have hsz : (⟨#[]⟩ : ByteArray).size ≤ 9223372036854775807 := by decide
    dsimp only
    have hv : vRead s = ((2, unzig m, ⟨#[]⟩), s2) := HV.out.trans (by rw [if_pos (by decide)])
    have ha := and1 m hm.1 (by omega)
    by_cases hm2 : m % 2 = 0
    · have hzz : unzig m = m / 2 := if_pos hm2
      have hx := xor0 (m / 2) (by omega) (by omega)
      have HT3 := hid (HT.out.trans (by rw [hv, hzz]))
      rw [hm2] at ha
      clear hv hzz
      have R3 := hid (R2.out.other (w' := w2.setCell ⟨w1.heap.size, 1, none⟩ (.int .i64 (m / 2))) V2.out.own (vo_cells _ _ _) (by omega) (fun k hk _ => Below.heap_setCell _ _ _ k hk))
      have Z3 := hid (Z2.out.off w1.heap.size 1 (.int .i64 (m / 2)) (by omega))
      have V3 := hid (V2.out.set1 (m / 2))
      have G3 := hid (grown_put G2.out w1.heap.size 1 (.int .i64 (m / 2)) (.inl (by omega)))
      go_wp2_with fail
      generalize w2.setCell ⟨w1.heap.size, 1, none⟩ (Value.int .i64 (m / 2)) = W at *
      clear v0 v1 v2
      refine (VRight_any 2 (m / 2) ⟨#[]⟩ _ hsz).mono ?_
      rcases hvr : vright 2 (m / 2) ⟨#[]⟩ with _ | _
      · rintro e w4 ⟨rfl, hb⟩
        have HVR := hid hvr
        have R4 := hid (R3.out.below hb)
        have Z4 := hid (Z3.out.below hb)
        have G4 := hid (grown_then G3.out hb)
        clear hb hvr
        go_wp2_with fail
        refine (Fail_r base rb s2 21 _ R4.out).mono ?_
        rintro e w5 ⟨rfl, hr, hg⟩
        have R5 := hid hr
        have Z5 := hid (Z4.out.grown hg (by omega))
        have G5 := hid (grown_trans G4.out hg)
        clear hr hg
        go_wp2_with fail
        refine (Err_r base rb (rFail s2 21) _ R5.out).mono ?_
        rintro e w6 ⟨rfl, rfl⟩
        have hne := rFail_ne s2
        generalize hrf : (rFail s2 21).2 = er at *
        have HRF := hid hrf
        clear hrf
        have f0 := Z5.out.fz 0; have f1 := Z5.out.fz 1; have f2 := Z5.out.fz 2
        have z0 := Z5.out.c0; have z1 := Z5.out.c1; have z2 := Z5.out.c2
        have hlz := Z5.out.lt
        go_wp2_with fail
        (try simp only [Exit.inBlock, Exit.then]); refine bodyPost_ret (v := vv 0 0 ⟨#[]⟩) (by simp [results, show Tryd.f67.results = #[.cell 2 26] from rfl, go_sem, *]) rfl ?_
        rw [HT3.out, vLook_no HVR.out]
        refine ⟨rfl, R5.out.other Z5.out.own (vo_cells _ _ _) (by omega) (fun k hk _ => ?_), ?_⟩
        · rw [Below.heap_setCell _ ⟨w.heap.size, 2, none⟩ _ k hk, Below.heap_setCell _ ⟨w.heap.size, 1, none⟩ _ k hk, Below.heap_setCell _ ⟨w.heap.size, 0, none⟩ _ k hk]
        · repeat' first | exact G5.out | refine grown_put ?_ _ _ _ (.inl (Nat.le_refl _))
      · rintro e w4 ⟨rfl, hb⟩
        have HVR := hid hvr
        have R4 := hid (R3.out.below hb)
        have Z4 := hid (Z3.out.below hb)
        have V4 := hid (V3.out.below hb)
        have G4 := hid (grown_then G3.out hb)
        clear hb hvr
        go_wp2_with fail
        refine (Err_r base rb s2 _ R4.out).mono ?_
        rintro e w5 ⟨rfl, rfl⟩
        have f0 := Z4.out.fz 0; have f1 := Z4.out.fz 1; have f2 := Z4.out.fz 2
        have z0 := Z4.out.c0; have z1 := Z4.out.c1; have z2 := Z4.out.c2
        have hlz := Z4.out.lt
        have x0 := V4.out.c0; have x1 := V4.out.c1; have x2 := V4.out.c2
        by_cases he : s2.2 = 0
        · have HE := hid he
          have he' : (s2.2 == 0) = true := by simp [he]
          clear he
          go_wp2_with fail
          (try simp only [Exit.inBlock, Exit.then]); refine bodyPost_ret (v := vv 2 (m / 2) ⟨#[]⟩) (by simp [results, show Tryd.f67.results = #[.cell 2 26] from rfl, go_sem, *]) rfl ?_
          rw [HT3.out, vLook_ok HVR.out HE.out]
          refine ⟨rfl, R4.out.other Z4.out.own (vo_cells _ _ _) (by omega) (fun k hk _ => ?_), ?_⟩
          · rw [Below.heap_setCell _ ⟨w.heap.size, 2, none⟩ _ k hk, Below.heap_setCell _ ⟨w.heap.size, 1, none⟩ _ k hk, Below.heap_setCell _ ⟨w.heap.size, 0, none⟩ _ k hk]
          · repeat' first | exact G4.out | refine grown_put ?_ _ _ _ (.inl (Nat.le_refl _))
        · have HE := hid he
          have he' : (s2.2 == 0) = false := by simp [he]
          have he2 : (s2.2 != 0) = true := by simp [he]
          clear he
          go_wp2_with fail
          (try simp only [Exit.inBlock, Exit.then]); refine bodyPost_ret (v := vv 0 0 ⟨#[]⟩) (by simp [results, show Tryd.f67.results = #[.cell 2 26] from rfl, go_sem, *]) rfl ?_
          rw [HT3.out, vLook_err HVR.out HE.out]
          refine ⟨rfl, R4.out.other Z4.out.own (vo_cells _ _ _) (by omega) (fun k hk _ => ?_), ?_⟩
          · rw [Below.heap_setCell _ ⟨w.heap.size, 2, none⟩ _ k hk, Below.heap_setCell _ ⟨w.heap.size, 1, none⟩ _ k hk, Below.heap_setCell _ ⟨w.heap.size, 0, none⟩ _ k hk]
          · repeat' first | exact G4.out | refine grown_put ?_ _ _ _ (.inl (Nat.le_refl _))
    · have hm3 : m % 2 = 1 := by omega
      have hzz : unzig m = -(m / 2) - 1 := if_neg hm2
      have hx := xor1 (m / 2) (by omega) (by omega)
      have HT3 := hid (HT.out.trans (by rw [hv, hzz]))
      rw [hm3] at ha
      clear hv hzz hm2
      have R3 := hid (R2.out.other (w' := w2.setCell ⟨w1.heap.size, 1, none⟩ (.int .i64 (-(m / 2) - 1))) V2.out.own (vo_cells _ _ _) (by omega) (fun k hk _ => Below.heap_setCell _ _ _ k hk))
      have Z3 := hid (Z2.out.off w1.heap.size 1 (.int .i64 (-(m / 2) - 1)) (by omega))
      have V3 := hid (V2.out.set1 (-(m / 2) - 1))
      have G3 := hid (grown_put G2.out w1.heap.size 1 (.int .i64 (-(m / 2) - 1)) (.inl (by omega)))
      go_wp2_with fail
      generalize w2.setCell ⟨w1.heap.size, 1, none⟩ (Value.int .i64 (-(m / 2) - 1)) = W at *
      clear v0 v1 v2
      refine (VRight_any 2 (-(m / 2) - 1) ⟨#[]⟩ _ hsz).mono ?_
      rcases hvr : vright 2 (-(m / 2) - 1) ⟨#[]⟩ with _ | _
      · rintro e w4 ⟨rfl, hb⟩
        have HVR := hid hvr
        have R4 := hid (R3.out.below hb)
        have Z4 := hid (Z3.out.below hb)
        have G4 := hid (grown_then G3.out hb)
        clear hb hvr
        go_wp2_with fail
        refine (Fail_r base rb s2 21 _ R4.out).mono ?_
        rintro e w5 ⟨rfl, hr, hg⟩
        have R5 := hid hr
        have Z5 := hid (Z4.out.grown hg (by omega))
        have G5 := hid (grown_trans G4.out hg)
        clear hr hg
        go_wp2_with fail
        refine (Err_r base rb (rFail s2 21) _ R5.out).mono ?_
        rintro e w6 ⟨rfl, rfl⟩
        have hne := rFail_ne s2
        generalize hrf : (rFail s2 21).2 = er at *
        have HRF := hid hrf
        clear hrf
        have f0 := Z5.out.fz 0; have f1 := Z5.out.fz 1; have f2 := Z5.out.fz 2
        have z0 := Z5.out.c0; have z1 := Z5.out.c1; have z2 := Z5.out.c2
        have hlz := Z5.out.lt
        go_wp2_with fail
        (try simp only [Exit.inBlock, Exit.then]); refine bodyPost_ret (v := vv 0 0 ⟨#[]⟩) (by simp [results, show Tryd.f67.results = #[.cell 2 26] from rfl, go_sem, *]) rfl ?_
        rw [HT3.out, vLook_no HVR.out]
        refine ⟨rfl, R5.out.other Z5.out.own (vo_cells _ _ _) (by omega) (fun k hk _ => ?_), ?_⟩
        · rw [Below.heap_setCell _ ⟨w.heap.size, 2, none⟩ _ k hk, Below.heap_setCell _ ⟨w.heap.size, 1, none⟩ _ k hk, Below.heap_setCell _ ⟨w.heap.size, 0, none⟩ _ k hk]
        · repeat' first | exact G5.out | refine grown_put ?_ _ _ _ (.inl (Nat.le_refl _))
      · rintro e w4 ⟨rfl, hb⟩
        have HVR := hid hvr
        have R4 := hid (R3.out.below hb)
        have Z4 := hid (Z3.out.below hb)
        have V4 := hid (V3.out.below hb)
        have G4 := hid (grown_then G3.out hb)
        clear hb hvr
        go_wp2_with fail
        refine (Err_r base rb s2 _ R4.out).mono ?_
        rintro e w5 ⟨rfl, rfl⟩
        have f0 := Z4.out.fz 0; have f1 := Z4.out.fz 1; have f2 := Z4.out.fz 2
        have z0 := Z4.out.c0; have z1 := Z4.out.c1; have z2 := Z4.out.c2
        have hlz := Z4.out.lt
        have x0 := V4.out.c0; have x1 := V4.out.c1; have x2 := V4.out.c2
        by_cases he : s2.2 = 0
        · have HE := hid he
          have he' : (s2.2 == 0) = true := by simp [he]
          clear he
          go_wp2_with fail
          (try simp only [Exit.inBlock, Exit.then]); refine bodyPost_ret (v := vv 2 (-(m / 2) - 1) ⟨#[]⟩) (by simp [results, show Tryd.f67.results = #[.cell 2 26] from rfl, go_sem, *]) rfl ?_
          rw [HT3.out, vLook_ok HVR.out HE.out]
          refine ⟨rfl, R4.out.other Z4.out.own (vo_cells _ _ _) (by omega) (fun k hk _ => ?_), ?_⟩
          · rw [Below.heap_setCell _ ⟨w.heap.size, 2, none⟩ _ k hk, Below.heap_setCell _ ⟨w.heap.size, 1, none⟩ _ k hk, Below.heap_setCell _ ⟨w.heap.size, 0, none⟩ _ k hk]
          · repeat' first | exact G4.out | refine grown_put ?_ _ _ _ (.inl (Nat.le_refl _))
        · have HE := hid he
          have he' : (s2.2 == 0) = false := by simp [he]
          have he2 : (s2.2 != 0) = true := by simp [he]
          clear he
          go_wp2_with fail
          (try simp only [Exit.inBlock, Exit.then]); refine bodyPost_ret (v := vv 0 0 ⟨#[]⟩) (by simp [results, show Tryd.f67.results = #[.cell 2 26] from rfl, go_sem, *]) rfl ?_
          rw [HT3.out, vLook_err HVR.out HE.out]
          refine ⟨rfl, R4.out.other Z4.out.own (vo_cells _ _ _) (by omega) (fun k hk _ => ?_), ?_⟩
          · rw [Below.heap_setCell _ ⟨w.heap.size, 2, none⟩ _ k hk, Below.heap_setCell _ ⟨w.heap.size, 1, none⟩ _ k hk, Below.heap_setCell _ ⟨w.heap.size, 0, none⟩ _ k hk]
          · repeat' first | exact G4.out | refine grown_put ?_ _ _ _ (.inl (Nat.le_refl _))
  · skip
    rcases hu : rText s1 with ⟨l, s2⟩
    have hl2 := rText_res s1
    rw [hu] at HV hl2
    have HU := hid hu
    clear hu
    dsimp only at HV hl2
    have hv : vRead s = ((3, 0, mkS l), s2) := HV.out.trans (by rw [if_neg (by decide), if_neg (by decide), if_pos (by decide)])
    have HT3 := hid (HT.out.trans (by rw [hv]))
    have hsz : (mkS l).size ≤ 9223372036854775807 := by rw [mkS_size]; omega
    clear hv
    go_wp2_with fail
    refine (Text_r base rb s1 _ R1.out).mono ?_
    rw [HU.out]
    rintro e w2 ⟨rfl, hr, hg⟩
    have R2 := hid hr
    have Z2 := hid (Z1.out.grown hg (by omega))
    have V2 := hid (V1.out.grown hg (by omega))
    have G2 := hid (grown_trans G1.out hg)
    clear hr hg v0 v1 v2
    dsimp only
    generalize mkS l = t at *
    have v0 := V2.out.c0; have v1 := V2.out.c1; have v2 := V2.out.c2
    have g1 := V2.out.fz 2
    have hlv := V2.out.lt
    have R3 := hid (R2.out.other (w' := w2.setCell ⟨w1.heap.size, 2, none⟩ (.string t)) V2.out.own (vo_cells _ _ _) (by omega) (fun k hk _ => Below.heap_setCell _ _ _ k hk))
    have Z3 := hid (Z2.out.off w1.heap.size 2 (.string t) (by omega))
    have V3 := hid (V2.out.set2 t)
    have G3 := hid (grown_put G2.out w1.heap.size 2 (.string t) (.inl (by omega)))
    go_wp2_with fail
    generalize w2.setCell ⟨w1.heap.size, 2, none⟩ (Value.string t) = W at *
    clear v0 v1 v2
    refine (VRight_any 3 0 t _ hsz).mono ?_
    rcases hvr : vright 3 0 t with _ | _
    · rintro e w4 ⟨rfl, hb⟩
      have HVR := hid hvr
      have R4 := hid (R3.out.below hb)
      have Z4 := hid (Z3.out.below hb)
      have G4 := hid (grown_then G3.out hb)
      clear hb hvr
      go_wp2_with fail
      refine (Fail_r base rb s2 21 _ R4.out).mono ?_
      rintro e w5 ⟨rfl, hr, hg⟩
      have R5 := hid hr
      have Z5 := hid (Z4.out.grown hg (by omega))
      have G5 := hid (grown_trans G4.out hg)
      clear hr hg
      go_wp2_with fail
      refine (Err_r base rb (rFail s2 21) _ R5.out).mono ?_
      rintro e w6 ⟨rfl, rfl⟩
      have hne := rFail_ne s2
      generalize hrf : (rFail s2 21).2 = er at *
      have HRF := hid hrf
      clear hrf
      have f0 := Z5.out.fz 0; have f1 := Z5.out.fz 1; have f2 := Z5.out.fz 2
      have z0 := Z5.out.c0; have z1 := Z5.out.c1; have z2 := Z5.out.c2
      have hlz := Z5.out.lt
      go_wp2_with fail
      (try simp only [Exit.inBlock, Exit.then]); refine bodyPost_ret (v := vv 0 0 ⟨#[]⟩) (by simp [results, show Tryd.f67.results = #[.cell 2 26] from rfl, go_sem, *]) rfl ?_
      rw [HT3.out, vLook_no HVR.out]
      refine ⟨rfl, R5.out.other Z5.out.own (vo_cells _ _ _) (by omega) (fun k hk _ => ?_), ?_⟩
      · rw [Below.heap_setCell _ ⟨w.heap.size, 2, none⟩ _ k hk, Below.heap_setCell _ ⟨w.heap.size, 1, none⟩ _ k hk, Below.heap_setCell _ ⟨w.heap.size, 0, none⟩ _ k hk]
      · repeat' first | exact G5.out | refine grown_put ?_ _ _ _ (.inl (Nat.le_refl _))
    · rintro e w4 ⟨rfl, hb⟩
      have HVR := hid hvr
      have R4 := hid (R3.out.below hb)
      have Z4 := hid (Z3.out.below hb)
      have V4 := hid (V3.out.below hb)
      have G4 := hid (grown_then G3.out hb)
      clear hb hvr
      go_wp2_with fail
      refine (Err_r base rb s2 _ R4.out).mono ?_
      rintro e w5 ⟨rfl, rfl⟩
      have f0 := Z4.out.fz 0; have f1 := Z4.out.fz 1; have f2 := Z4.out.fz 2
      have z0 := Z4.out.c0; have z1 := Z4.out.c1; have z2 := Z4.out.c2
      have hlz := Z4.out.lt
      have x0 := V4.out.c0; have x1 := V4.out.c1; have x2 := V4.out.c2
      by_cases he : s2.2 = 0
      · have HE := hid he
        have he' : (s2.2 == 0) = true := by simp [he]
        clear he
        go_wp2_with fail
        (try simp only [Exit.inBlock, Exit.then]); refine bodyPost_ret (v := vv 3 0 t) (by simp [results, show Tryd.f67.results = #[.cell 2 26] from rfl, go_sem, *]) rfl ?_
        rw [HT3.out, vLook_ok HVR.out HE.out]
        refine ⟨rfl, R4.out.other Z4.out.own (vo_cells _ _ _) (by omega) (fun k hk _ => ?_), ?_⟩
        · rw [Below.heap_setCell _ ⟨w.heap.size, 2, none⟩ _ k hk, Below.heap_setCell _ ⟨w.heap.size, 1, none⟩ _ k hk, Below.heap_setCell _ ⟨w.heap.size, 0, none⟩ _ k hk]
        · repeat' first | exact G4.out | refine grown_put ?_ _ _ _ (.inl (Nat.le_refl _))
      · have HE := hid he
        have he' : (s2.2 == 0) = false := by simp [he]
        have he2 : (s2.2 != 0) = true := by simp [he]
        clear he
        go_wp2_with fail
        (try simp only [Exit.inBlock, Exit.then]); refine bodyPost_ret (v := vv 0 0 ⟨#[]⟩) (by simp [results, show Tryd.f67.results = #[.cell 2 26] from rfl, go_sem, *]) rfl ?_
        rw [HT3.out, vLook_err HVR.out HE.out]
        refine ⟨rfl, R4.out.other Z4.out.own (vo_cells _ _ _) (by omega) (fun k hk _ => ?_), ?_⟩
        · rw [Below.heap_setCell _ ⟨w.heap.size, 2, none⟩ _ k hk, Below.heap_setCell _ ⟨w.heap.size, 1, none⟩ _ k hk, Below.heap_setCell _ ⟨w.heap.size, 0, none⟩ _ k hk]
        · repeat' first | exact G4.out | refine grown_put ?_ _ _ _ (.inl (Nat.le_refl _))
  · skip
    have hm := rUpto_range s1 281474976710655 (by omega)
    rcases hu : rUpto 281474976710655 s1 with ⟨m, s2⟩
    rw [hu] at HV hm
    have HU := hid hu
    clear hu
    dsimp only at HV hm
    go_wp2_with fail
    refine (Num_r base rb s1 _ R1.out).mono ?_
    rw [HU.out]
    rintro e w2 ⟨rfl, hr, hg⟩
    have R2 := hid hr
    have Z2 := hid (Z1.out.grown hg (by omega))
    have V2 := hid (V1.out.grown hg (by omega))
    have G2 := hid (grown_trans G1.out hg)
    clear hr hg v0 v1 v2
    have v0 := V2.out.c0; have v1 := V2.out.c1; have v2 := V2.out.c2
    have g1 := V2.out.fz 1
    have hlv := V2.out.lt
    have hsz : (⟨#[]⟩ : ByteArray).size ≤ 9223372036854775807 := by decide
    dsimp only
    have hv : vRead s = ((4, m, ⟨#[]⟩), s2) := HV.out.trans (by rw [if_neg (by decide), if_pos (by decide)])
    have HT3 := hid (HT.out.trans (by rw [hv]))
    clear hv
    have R3 := hid (R2.out.other (w' := w2.setCell ⟨w1.heap.size, 1, none⟩ (.int .i64 (m))) V2.out.own (vo_cells _ _ _) (by omega) (fun k hk _ => Below.heap_setCell _ _ _ k hk))
    have Z3 := hid (Z2.out.off w1.heap.size 1 (.int .i64 (m)) (by omega))
    have V3 := hid (V2.out.set1 (m))
    have G3 := hid (grown_put G2.out w1.heap.size 1 (.int .i64 (m)) (.inl (by omega)))
    go_wp2_with fail
    generalize w2.setCell ⟨w1.heap.size, 1, none⟩ (Value.int .i64 m) = W at *
    clear v0 v1 v2
    refine (VRight_any 4 m ⟨#[]⟩ _ hsz).mono ?_
    rcases hvr : vright 4 m ⟨#[]⟩ with _ | _
    · rintro e w4 ⟨rfl, hb⟩
      have HVR := hid hvr
      have R4 := hid (R3.out.below hb)
      have Z4 := hid (Z3.out.below hb)
      have G4 := hid (grown_then G3.out hb)
      clear hb hvr
      go_wp2_with fail
      refine (Fail_r base rb s2 21 _ R4.out).mono ?_
      rintro e w5 ⟨rfl, hr, hg⟩
      have R5 := hid hr
      have Z5 := hid (Z4.out.grown hg (by omega))
      have G5 := hid (grown_trans G4.out hg)
      clear hr hg
      go_wp2_with fail
      refine (Err_r base rb (rFail s2 21) _ R5.out).mono ?_
      rintro e w6 ⟨rfl, rfl⟩
      have hne := rFail_ne s2
      generalize hrf : (rFail s2 21).2 = er at *
      have HRF := hid hrf
      clear hrf
      have f0 := Z5.out.fz 0; have f1 := Z5.out.fz 1; have f2 := Z5.out.fz 2
      have z0 := Z5.out.c0; have z1 := Z5.out.c1; have z2 := Z5.out.c2
      have hlz := Z5.out.lt
      go_wp2_with fail
      (try simp only [Exit.inBlock, Exit.then]); refine bodyPost_ret (v := vv 0 0 ⟨#[]⟩) (by simp [results, show Tryd.f67.results = #[.cell 2 26] from rfl, go_sem, *]) rfl ?_
      rw [HT3.out, vLook_no HVR.out]
      refine ⟨rfl, R5.out.other Z5.out.own (vo_cells _ _ _) (by omega) (fun k hk _ => ?_), ?_⟩
      · rw [Below.heap_setCell _ ⟨w.heap.size, 2, none⟩ _ k hk, Below.heap_setCell _ ⟨w.heap.size, 1, none⟩ _ k hk, Below.heap_setCell _ ⟨w.heap.size, 0, none⟩ _ k hk]
      · repeat' first | exact G5.out | refine grown_put ?_ _ _ _ (.inl (Nat.le_refl _))
    · rintro e w4 ⟨rfl, hb⟩
      have HVR := hid hvr
      have R4 := hid (R3.out.below hb)
      have Z4 := hid (Z3.out.below hb)
      have V4 := hid (V3.out.below hb)
      have G4 := hid (grown_then G3.out hb)
      clear hb hvr
      go_wp2_with fail
      refine (Err_r base rb s2 _ R4.out).mono ?_
      rintro e w5 ⟨rfl, rfl⟩
      have f0 := Z4.out.fz 0; have f1 := Z4.out.fz 1; have f2 := Z4.out.fz 2
      have z0 := Z4.out.c0; have z1 := Z4.out.c1; have z2 := Z4.out.c2
      have hlz := Z4.out.lt
      have x0 := V4.out.c0; have x1 := V4.out.c1; have x2 := V4.out.c2
      by_cases he : s2.2 = 0
      · have HE := hid he
        have he' : (s2.2 == 0) = true := by simp [he]
        clear he
        go_wp2_with fail
        (try simp only [Exit.inBlock, Exit.then]); refine bodyPost_ret (v := vv 4 m ⟨#[]⟩) (by simp [results, show Tryd.f67.results = #[.cell 2 26] from rfl, go_sem, *]) rfl ?_
        rw [HT3.out, vLook_ok HVR.out HE.out]
        refine ⟨rfl, R4.out.other Z4.out.own (vo_cells _ _ _) (by omega) (fun k hk _ => ?_), ?_⟩
        · rw [Below.heap_setCell _ ⟨w.heap.size, 2, none⟩ _ k hk, Below.heap_setCell _ ⟨w.heap.size, 1, none⟩ _ k hk, Below.heap_setCell _ ⟨w.heap.size, 0, none⟩ _ k hk]
        · repeat' first | exact G4.out | refine grown_put ?_ _ _ _ (.inl (Nat.le_refl _))
      · have HE := hid he
        have he' : (s2.2 == 0) = false := by simp [he]
        have he2 : (s2.2 != 0) = true := by simp [he]
        clear he
        go_wp2_with fail
        (try simp only [Exit.inBlock, Exit.then]); refine bodyPost_ret (v := vv 0 0 ⟨#[]⟩) (by simp [results, show Tryd.f67.results = #[.cell 2 26] from rfl, go_sem, *]) rfl ?_
        rw [HT3.out, vLook_err HVR.out HE.out]
        refine ⟨rfl, R4.out.other Z4.out.own (vo_cells _ _ _) (by omega) (fun k hk _ => ?_), ?_⟩
        · rw [Below.heap_setCell _ ⟨w.heap.size, 2, none⟩ _ k hk, Below.heap_setCell _ ⟨w.heap.size, 1, none⟩ _ k hk, Below.heap_setCell _ ⟨w.heap.size, 0, none⟩ _ k hk]
        · repeat' first | exact G4.out | refine grown_put ?_ _ _ _ (.inl (Nat.le_refl _))
  · skip
    have hv : vRead s = ((k, 0, ⟨#[]⟩), s1) := HV.out.trans (by simp only [beq_eq_false_iff_ne] at e1 e2 e3 e4; rw [if_neg (by omega), if_neg (by omega), if_neg (by omega)])
    have HT3 := hid (HT.out.trans (by rw [hv]))
    have R3 := hid R1.out; have Z3 := hid Z1.out; have G3 := hid G1.out; have V3 := hid V1.out
    have hsz : (⟨#[]⟩ : ByteArray).size ≤ 9223372036854775807 := by decide
    clear hv
    go_wp2_with fail
    clear v0 v1 v2
    refine (VRight_any k 0 ⟨#[]⟩ _ hsz).mono ?_
    rcases hvr : vright k 0 ⟨#[]⟩ with _ | _
    · rintro e w4 ⟨rfl, hb⟩
      have HVR := hid hvr
      have R4 := hid (R3.out.below hb)
      have Z4 := hid (Z3.out.below hb)
      have G4 := hid (grown_then G3.out hb)
      clear hb hvr
      go_wp2_with fail
      refine (Fail_r base rb s1 21 _ R4.out).mono ?_
      rintro e w5 ⟨rfl, hr, hg⟩
      have R5 := hid hr
      have Z5 := hid (Z4.out.grown hg (by omega))
      have G5 := hid (grown_trans G4.out hg)
      clear hr hg
      go_wp2_with fail
      refine (Err_r base rb (rFail s1 21) _ R5.out).mono ?_
      rintro e w6 ⟨rfl, rfl⟩
      have hne := rFail_ne s1
      generalize hrf : (rFail s1 21).2 = er at *
      have HRF := hid hrf
      clear hrf
      have f0 := Z5.out.fz 0; have f1 := Z5.out.fz 1; have f2 := Z5.out.fz 2
      have z0 := Z5.out.c0; have z1 := Z5.out.c1; have z2 := Z5.out.c2
      have hlz := Z5.out.lt
      go_wp2_with fail
      (try simp only [Exit.inBlock, Exit.then]); refine bodyPost_ret (v := vv 0 0 ⟨#[]⟩) (by simp [results, show Tryd.f67.results = #[.cell 2 26] from rfl, go_sem, *]) rfl ?_
      rw [HT3.out, vLook_no HVR.out]
      refine ⟨rfl, R5.out.other Z5.out.own (vo_cells _ _ _) (by omega) (fun k hk _ => ?_), ?_⟩
      · rw [Below.heap_setCell _ ⟨w.heap.size, 2, none⟩ _ k hk, Below.heap_setCell _ ⟨w.heap.size, 1, none⟩ _ k hk, Below.heap_setCell _ ⟨w.heap.size, 0, none⟩ _ k hk]
      · repeat' first | exact G5.out | refine grown_put ?_ _ _ _ (.inl (Nat.le_refl _))
    · rintro e w4 ⟨rfl, hb⟩
      have HVR := hid hvr
      have R4 := hid (R3.out.below hb)
      have Z4 := hid (Z3.out.below hb)
      have V4 := hid (V3.out.below hb)
      have G4 := hid (grown_then G3.out hb)
      clear hb hvr
      go_wp2_with fail
      refine (Err_r base rb s1 _ R4.out).mono ?_
      rintro e w5 ⟨rfl, rfl⟩
      have f0 := Z4.out.fz 0; have f1 := Z4.out.fz 1; have f2 := Z4.out.fz 2
      have z0 := Z4.out.c0; have z1 := Z4.out.c1; have z2 := Z4.out.c2
      have hlz := Z4.out.lt
      have x0 := V4.out.c0; have x1 := V4.out.c1; have x2 := V4.out.c2
      by_cases he : s1.2 = 0
      · have HE := hid he
        have he' : (s1.2 == 0) = true := by simp [he]
        clear he
        go_wp2_with fail
        (try simp only [Exit.inBlock, Exit.then]); refine bodyPost_ret (v := vv k 0 ⟨#[]⟩) (by simp [results, show Tryd.f67.results = #[.cell 2 26] from rfl, go_sem, *]) rfl ?_
        rw [HT3.out, vLook_ok HVR.out HE.out]
        refine ⟨rfl, R4.out.other Z4.out.own (vo_cells _ _ _) (by omega) (fun k hk _ => ?_), ?_⟩
        · rw [Below.heap_setCell _ ⟨w.heap.size, 2, none⟩ _ k hk, Below.heap_setCell _ ⟨w.heap.size, 1, none⟩ _ k hk, Below.heap_setCell _ ⟨w.heap.size, 0, none⟩ _ k hk]
        · repeat' first | exact G4.out | refine grown_put ?_ _ _ _ (.inl (Nat.le_refl _))
      · have HE := hid he
        have he' : (s1.2 == 0) = false := by simp [he]
        have he2 : (s1.2 != 0) = true := by simp [he]
        clear he
        go_wp2_with fail
        (try simp only [Exit.inBlock, Exit.then]); refine bodyPost_ret (v := vv 0 0 ⟨#[]⟩) (by simp [results, show Tryd.f67.results = #[.cell 2 26] from rfl, go_sem, *]) rfl ?_
        rw [HT3.out, vLook_err HVR.out HE.out]
        refine ⟨rfl, R4.out.other Z4.out.own (vo_cells _ _ _) (by omega) (fun k hk _ => ?_), ?_⟩
        · rw [Below.heap_setCell _ ⟨w.heap.size, 2, none⟩ _ k hk, Below.heap_setCell _ ⟨w.heap.size, 1, none⟩ _ k hk, Below.heap_setCell _ ⟨w.heap.size, 0, none⟩ _ k hk]
        · repeat' first | exact G4.out | refine grown_put ?_ _ _ _ (.inl (Nat.le_refl _))
end Go.Proofs.YtnakanophilfhaaDoor
