/- LnA StF3 StF5 StW VcB VcC VcE VaJ ShV VaK VfW in one. -/
import Derived.Test.YtdbghnfmhgjkaaaDoorWbA
import Derived.Test.YtdbghnfmhgjkaaaDoorK3
import Derived.Test.YtdbghnfmhgjkaaaDoorK2
import Derived.Lib.AppendZerosOnto
import Derived.Test.YtdbghnfmhgjkaaaDoorStF2
import Derived.Test.YtdbghnfmhgjkaaaDoorVcP
import Derived.Test.YtdbghnfmhgjkaaaDoorStF4
import Derived.Test.YtdbghnfmhgjkaaaDoorStF1
import Derived.Test.YtdbghnfmhgjkaaaDoorVcD
import Derived.Test.YtdbghnfmhgjkaaaDoorVaH
import Derived.Test.YtdbghnfmhgjkaaaDoorSh
import Derived.Test.YtdbghnfmhgjkaaaDoorVaI
import Derived.Test.YtdbghnfmhgjkaaaDoorVfB
import Derived.Test.YtdbghnfmhgjkaaaDoorVfN
/- LnA: Lent, Stays. -/
namespace Go.Proofs.YtdbghnfmhgjkaaaDoor
open Go.RowKit Go.Dio
set_option linter.unusedVariables false
set_option linter.unusedSimpArgs false

/-- Bytes with marked room behind them. -/
def LentB (w : World) (base g cap : Nat) (xs : List UInt8) : Prop := OwnB 5 w base (.slice (some ⟨g, 0, none⟩) (xs.length + 2) cap) (xs ++ [61, 62])
theorem LentB.isB {w : World} {base g cap : Nat} {xs : List UInt8} (h : LentB w base g cap xs) : IsB w (some ⟨g, 0, none⟩) xs.length cap xs ∧ g < w.heap.size ∧ base ≤ g := by
  obtain ⟨A, n, c, e, h1, h2⟩ := h.form
  cases e
  have := h1.take xs.length (by omega)
  rw [List.take_left] at this
  obtain ⟨q1, q2, -⟩ := h2 _ rfl
  refine ⟨⟨rfl, this.cap, this.max, ?_⟩, q2, q1⟩
  have h3 := this.cells
  unfold cutA at h3
  split at h3
  · exact h3
  · simpa [Addr.add] using h3
def LentOut (w : World) (xs : List UInt8) (e : Ending) (w' : World) : Prop := ∃ g cap, e = .returned (.slice (some ⟨g, 0, none⟩) xs.length cap) ∧ LentB w' w.heap.size g cap xs ∧ Below w.heap.size w w'

set_option maxRecDepth 100000 in
set_option maxHeartbeats 1000000 in
theorem Lent_any (A : Option Addr) (n c : Nat) (xs : List UInt8) (w : World) (h : IsB w A n c xs) (hn : n ≤ 140737488355000) :
    Calls Tryd.prog 40 #[.slice A n c] w (LentOut w xs) := by
  have HH := hid h
  have hl := hid h.len
  have hc := h.cap; have hm := h.max
  clear h
  go_enter Tryd.func40, Tryd.ntmps40
  go_wp2_with (at_builtin; refine wpList_append_b (w0 := w) w.heap.size rfl _ _ 55 5 rfl Tryd.underlying55 info_u8 _ n [] xs A c rfl rfl ?c1 (HH.out.below (below_alloc1 w _)) (below_alloc1 w _) ?c2 ?c3 ?_)
  case c1 => exact OwnB.lit _ w _ [] (Nat.le_refl _) (by simp)
  case c2 => simp
  case c3 => simp; omega
  intro v1 w1 ho hb hg hat
  clear hg hat
  have hs1 := hb.size
  go_wp2_with (at_builtin; refine wpList_append_b (w0 := w) w.heap.size rfl _ _ 55 5 rfl Tryd.underlying55 info_u8 _ 2 _ [61, 62] _ 2 rfl rfl (ho.alloc _) (IsB.newL w1 5 [61, 62] (by simp)) (hb.alloc hs1 _) ?c4 ?c5 ?_)
  case c4 => simp; omega
  case c5 => simp [hl.out]; omega
  intro v2 w2 ho2 hb2 hg2 hat2
  clear hg2 hat2 ho
  obtain ⟨g, cap, rfl, hbg, hgl, hlc, hcm, -, -, -⟩ := ho2.at_ (by simp)
  have hlc' : n + 2 ≤ cap := by have := hl.out; simp at hlc; omega
  have HO := hid ho2; clear ho2 hlc
  go_wp2_with fail
  go_ret
  refine ⟨g, cap, by rw [hl.out]; rfl, ?_, hb2⟩
  have := HO.out
  rw [List.length_append] at this
  exact this

set_option maxRecDepth 100000 in
set_option maxHeartbeats 1000000 in
theorem Stays_any (g cap base : Nat) (A : Option Addr) (n c : Nat) (xs : List UInt8) (w : World) (h : IsB w A n c xs) (hw : LentB w base g cap xs) (hn : n ≤ 140737488355000) :
    Calls Tryd.prog 49 #[.slice (some ⟨g, 0, none⟩) n cap, .slice A n c] w fun e w' => e = .returned (.bool true) ∧ Drawn w w' := by
  have hl := h.len
  have hc := h.cap; have hm := h.max
  obtain ⟨g', cap', e', -, hgl, hlc, hcm, hcell, -, -⟩ := hw.at_ (by simp)
  injection e' with e1 e2 e3
  injection e1 with e1
  injection e1 with e1 _ _
  subst e1 e3
  clear e2
  have hlc' : n + 2 ≤ cap := by simp at hlc; omega
  have h61 : w.cell? ⟨g, n, none⟩ = some (.int .u8 61) := by rw [hcell n (by simp; omega)]; simp [gb, ← hl]
  have h62 : w.cell? ⟨g, n + 1, none⟩ = some (.int .u8 62) := by rw [hcell (n + 1) (by simp; omega)]; simp [gb, ← hl, List.getElem?_append]
  have hc61 : ∀ k, (w.drewN k).cell? ⟨g, n, none⟩ = some (.int .u8 61) := fun k => h61
  obtain ⟨hb1, -, -⟩ := hw.isB
  have hs1 := fun k => run_string (P := Tryd.prog) 55 9 5 Tryd.underlying55 Tryd.underlying5 Tryd.underlying9 (hb1.below (Drawn.below (w' := w.drewN k) ⟨k, rfl⟩))
  have hs2 := fun k => run_string (P := Tryd.prog) 55 9 5 Tryd.underlying55 Tryd.underlying5 Tryd.underlying9 (h.below (Drawn.below (w' := w.drewN k) ⟨k, rfl⟩))
  rw [hl] at hs1
  generalize mkS xs = s at *
  clear hc61 hcell h hw hb1 hlc
  have HL := hid hl; clear hl
  go_enter Tryd.func49, Tryd.ntmps49
  go_wp2_with fail
  go_quiet (fail)
  go_wp2
  go_ret
  exact ⟨rfl, _, rfl⟩

end Go.Proofs.YtdbghnfmhgjkaaaDoor
/- StF3: stamp.Parse at any text. -/
namespace Go.Proofs.YtdbghnfmhgjkaaaDoor
open Go.RowKit Go.Dio
set_option linter.unusedVariables false
set_option linter.unusedSimpArgs false

set_option maxRecDepth 100000 in
theorem Cut_in_no (s : ByteArray) (c : UInt8) (w : World) (hi : Lib.indexByte s.data.toList c = -1) :
    Calls Tryd.prog 105 #[.string s, .string ⟨#[c]⟩] w fun e w' => e = .returned (.tuple #[.string s, .string ⟨#[]⟩, .bool false]) ∧ Below w.heap.size w w' := by
  go_enter Tryd.func105, Tryd.ntmps105
  go_wp2_with fail
  refine (Tryd.stringslite_Index_one s c _).mono ?_
  rw [hi]
  rintro e w1 ⟨rfl, hw⟩
  have hw := hw.symm; subst hw
  go_wp2_with fail
  go_ret3
  exact ⟨rfl, Below.refl _ _⟩
theorem Cut_no (s : ByteArray) (c : UInt8) (w : World) (hi : Lib.indexByte s.data.toList c = -1) :
    Calls Tryd.prog 82 #[.string s, .string ⟨#[c]⟩] w fun e w' => e = .returned (.tuple #[.string s, .string ⟨#[]⟩, .bool false]) ∧ Below w.heap.size w w' := by
  go_enter Tryd.func82, Tryd.ntmps82
  go_wp2_with fail
  refine (Cut_in_no s c _ hi).mono ?_
  rintro e w1 ⟨rfl, hb⟩
  go_wp2_with fail
  go_ret3
  exact ⟨rfl, hb⟩

set_option maxRecDepth 100000 in
set_option maxHeartbeats 1000000 in
theorem SParse_no (s : ByteArray) (w : World) (hs : s.size ≤ 281474976710656) (he : ErrsAt w) (hi : Lib.indexByte s.data.toList 64 = -1) :
    Calls Tryd.prog 34 #[.string s] w fun e w' => e = .returned (.tuple #[stv (rSP s.data.toList).1.1 (rSP s.data.toList).1.2, .bool (rSP s.data.toList).2]) ∧ Below w.heap.size w w' := by
  have S0 := hid (SAt.new w 0 0 _ rfl)
  have H0 := hid (below_alloc1 w (so 0 0))
  have HE := hid he
  have HR := hid (rSP_none hi)
  have HI := hid hi
  clear he hi
  go_enter Tryd.func34, Tryd.ntmps34
  go_wp2_with fail
  refine (Cut_no s 64 _ HI.out).mono ?_
  rintro e w1 ⟨rfl, hb⟩
  have H1 := hid (below_then H0.out hb)
  have S1 := hid (S0.out.below hb)
  clear hb
  go_wp2_with fail
  refine (Atoi_all s _ hs (HE.out.below H1.out)).mono ?_
  rintro e w2 ⟨⟨x, er, rfl, -⟩, hb⟩
  have H2 := hid (below_then H1.out hb)
  have S2 := hid (S1.out.below hb)
  clear hb
  go_wp2_with fail
  refine (Atoi_all ⟨#[]⟩ _ (by decide) (HE.out.below H2.out)).mono ?_
  rintro e w3 ⟨⟨y, er2, rfl, -⟩, hb⟩
  have H3 := hid (below_new (below_then H2.out hb) (so x y))
  have S3 := hid ((S2.out.below hb).below (below_alloc1 _ (so x y)))
  clear hb
  have f0 := S3.out.fz 0; have f1 := S3.out.fz 1
  have c0 := S3.out.c0; have c1 := S3.out.c1
  have hl := S3.out.lt
  go_wp2_with fail
  (try simp only [Exit.inBlock, Exit.then]); refine bodyPost_ret (v := .tuple #[stv 0 0, .bool false]) (by simp [results, show Tryd.f34.results = #[.cell 2 33, .tmp 3] from rfl, go_sem, *]) rfl ?_
  refine ⟨by rw [HR.out], ?_⟩
  repeat' first | exact H3.out | refine below_put ?_ _ _ _ (by omega)

set_option maxRecDepth 100000 in
set_option maxHeartbeats 2000000 in
theorem SParse_in (s : ByteArray) (w : World) (hs : s.size ≤ 281474976710656) (hp : PowTab w) (he : ErrsAt w) (i : Nat) (hi : Lib.indexByte s.data.toList 64 = (i : Int)) :
    Calls Tryd.prog 34 #[.string s] w fun e w' => e = .returned (.tuple #[stv (rSP s.data.toList).1.1 (rSP s.data.toList).1.2, .bool (rSP s.data.toList).2]) ∧ Below w.heap.size w w' := by
  have hlen : s.data.toList.length = s.size := by rw [Array.length_toList]; rfl
  obtain ⟨hil, -, -⟩ := cut64 hi
  rw [hlen] at hil
  have S0 := hid (SAt.new w 0 0 _ rfl)
  have H0 := hid (below_alloc1 w (so 0 0))
  have HE := hid he; have HP := hid hp
  have HCUT := hid (fun w => Cut_at s 64 w (by omega) i hi hil)
  have hx1 : (mkS (s.data.toList.take i)).size ≤ 281474976710656 := by rw [mkS_size, List.length_take]; omega
  have hx2 : (mkS (s.data.toList.drop (i + 1))).size ≤ 281474976710656 := by rw [mkS_size, List.length_drop]; omega
  have d1 := mkS_toList (s.data.toList.take i)
  have d2 := mkS_toList (s.data.toList.drop (i + 1))
  have HPR := hid (rSP_prog hi)
  have HBAD := hid (rSP_bad hi)
  clear he hp hi hil hlen
  rw [← d1] at HPR HBAD
  rw [← d2] at HPR HBAD
  clear d1 d2
  generalize mkS (s.data.toList.take i) = s1 at *
  generalize mkS (s.data.toList.drop (i + 1)) = s2 at *
  go_enter Tryd.func34, Tryd.ntmps34
  go_wp2_with fail
  refine (HCUT.out _).mono ?_
  rintro e w1 ⟨rfl, hb⟩
  have H1 := hid (below_then H0.out hb)
  have S1 := hid (S0.out.below hb)
  clear hb
  go_wp2_with fail
  refine (Atoi_all s1 _ hx1 (HE.out.below H1.out)).mono ?_
  rintro e w2 ⟨⟨x, er, rfl, hx⟩, hb⟩
  have H2 := hid (below_then H1.out hb)
  have S2 := hid (S1.out.below hb)
  have HX := hid hx
  clear hb hx
  go_wp2_with fail
  refine (Atoi_all s2 _ hx2 (HE.out.below H2.out)).mono ?_
  rintro e w3 ⟨⟨y, er2, rfl, hy⟩, hb⟩
  have H3 := hid (below_new (below_then H2.out hb) (so x y))
  have S3 := hid ((S2.out.below hb).below (below_alloc1 _ (so x y)))
  have X3 := hid (SAt.new w3 x y _ rfl)
  have HY := hid hy
  clear hb hy hx1 hx2
  rcases HX.out with ⟨ex, rfl, ix⟩ | ⟨ex, ⟨t, p, rfl⟩, ix⟩
  · rcases HY.out with ⟨ey, rfl, iy⟩ | ⟨ey, ⟨t, p, rfl⟩, iy⟩
    · have EQ := hid (HPR.out x y ex ey)
      have IX := hid ix; have IY := hid iy
      clear ex ey ix iy HX HY HPR HBAD
      go_wp2_with fail
      refine (Right2_any x y _).mono ?_
      rcases hsr : sright x y with _ | _
      all_goals
        have HSR := hid hsr
        rintro e w4 ⟨rfl, hb⟩
        have H4 := hid (below_then H3.out hb)
        have S4 := hid (S3.out.below hb)
        have X4 := hid (X3.out.below hb)
        clear hb
        have x0 := X4.out.c0; have x1 := X4.out.c1
      · have EQ2 := hid (EQ.out.trans (if_neg (by rw [HSR.out]; simp)))
        clear EQ
        have f0 := S4.out.fz 0; have f1 := S4.out.fz 1
        have c0 := S4.out.c0; have c1 := S4.out.c1
        have hl := S4.out.lt
        go_wp2_with fail
        (try simp only [Exit.inBlock, Exit.then]); refine bodyPost_ret (v := .tuple #[stv 0 0, .bool false]) (by simp [results, show Tryd.f34.results = #[.cell 2 33, .tmp 3] from rfl, go_sem, *]) rfl ?_
        refine ⟨by rw [EQ2.out], ?_⟩
        repeat' first | exact H4.out | refine below_put ?_ _ _ _ (by omega)
      · go_wp2_with fail
        refine (SPrint_any x y _ IX.out IY.out (HP.out.below H4.out)).mono ?_
        rintro e w5 ⟨rfl, hb⟩
        have H5 := hid (below_then H4.out hb)
        have S5 := hid (S4.out.below hb)
        have X5 := hid (X4.out.below hb)
        clear hb x0 x1
        by_cases hpr : prS x y = s.data.toList
        · have EQ2 := hid (EQ.out.trans (if_pos ⟨HSR.out, hpr⟩))
          have hm : mkS (prS x y) = s := by rw [hpr, mkS_data]
          rw [hm]
          clear hpr hm EQ
          have f0 := S5.out.fz 0; have f1 := S5.out.fz 1
          have c0 := S5.out.c0; have c1 := S5.out.c1
          have x0 := X5.out.c0; have x1 := X5.out.c1
          have hl := S5.out.lt
          go_wp2_with fail
          (try simp only [Exit.inBlock, Exit.then]); refine bodyPost_ret (v := .tuple #[stv x y, .bool true]) (by simp [results, show Tryd.f34.results = #[.cell 2 33, .tmp 3] from rfl, go_sem, *]) rfl ?_
          refine ⟨by rw [EQ2.out], ?_⟩
          repeat' first | exact H5.out | refine below_put ?_ _ _ _ (by omega)
        · have EQ2 := hid (EQ.out.trans (if_neg (fun h => hpr h.2)))
          have hm := mkS_ne (x := prS x y) (s := s) (by rw [toList_eq]; exact hpr)
          clear hpr EQ
          generalize mkS (prS x y) = s3 at *
          have f0 := S5.out.fz 0; have f1 := S5.out.fz 1
          have c0 := S5.out.c0; have c1 := S5.out.c1
          have hl := S5.out.lt
          go_wp2_with fail
          (try simp only [Exit.inBlock, Exit.then]); refine bodyPost_ret (v := .tuple #[stv 0 0, .bool false]) (by simp [results, show Tryd.f34.results = #[.cell 2 33, .tmp 3] from rfl, go_sem, *]) rfl ?_
          refine ⟨by rw [EQ2.out], ?_⟩
          repeat' first | exact H5.out | refine below_put ?_ _ _ _ (by omega)
    · have EQ2 := hid (HBAD.out (.inr ey))
      clear ex ey ix iy HX HY HPR HBAD
      have f0 := S3.out.fz 0; have f1 := S3.out.fz 1
      have c0 := S3.out.c0; have c1 := S3.out.c1
      have hl := S3.out.lt
      go_wp2_with fail
      (try simp only [Exit.inBlock, Exit.then]); refine bodyPost_ret (v := .tuple #[stv 0 0, .bool false]) (by simp [results, show Tryd.f34.results = #[.cell 2 33, .tmp 3] from rfl, go_sem, *]) rfl ?_
      refine ⟨by rw [EQ2.out], ?_⟩
      repeat' first | exact H3.out | refine below_put ?_ _ _ _ (by omega)
  · have EQ2 := hid (HBAD.out (.inl ex))
    clear ex ix HX HY HPR HBAD
    have f0 := S3.out.fz 0; have f1 := S3.out.fz 1
    have c0 := S3.out.c0; have c1 := S3.out.c1
    have hl := S3.out.lt
    go_wp2_with fail
    (try simp only [Exit.inBlock, Exit.then]); refine bodyPost_ret (v := .tuple #[stv 0 0, .bool false]) (by simp [results, show Tryd.f34.results = #[.cell 2 33, .tmp 3] from rfl, go_sem, *]) rfl ?_
    refine ⟨by rw [EQ2.out], ?_⟩
    repeat' first | exact H3.out | refine below_put ?_ _ _ _ (by omega)
theorem SParse_any (s : ByteArray) (w : World) (hs : s.size ≤ 281474976710656) (hp : PowTab w) (he : ErrsAt w) :
    Calls Tryd.prog 34 #[.string s] w fun e w' => e = .returned (.tuple #[stv (rSP s.data.toList).1.1 (rSP s.data.toList).1.2, .bool (rSP s.data.toList).2]) ∧ Below w.heap.size w w' := by
  by_cases hn : Lib.indexByte s.data.toList 64 = -1
  · exact SParse_no s w hs he hn
  · have := idx_ge s.data.toList 64
    exact SParse_in s w hs hp he (Lib.indexByte s.data.toList 64).toNat (by omega)
end Go.Proofs.YtdbghnfmhgjkaaaDoor
/- StF5: The last of a list of stamps: the program's, the document's. -/
namespace Go.Proofs.YtdbghnfmhgjkaaaDoor
open Go.RowKit Go.Dio
set_option linter.unusedVariables false
set_option linter.unusedSimpArgs false

theorem SAt.set {w : World} {b : Nat} {t r : Int} (h : SAt w b t r) (t' r' : Int) : SAt ((w.setCell ⟨b, 0, none⟩ (.int .i64 t')).setCell ⟨b, 1, none⟩ (.int .i64 r')) b t' r' := ⟨by simp [World.setCell, Array.getElem?_modify, h.own]⟩
theorem SAt.off {w : World} {b : Nat} {t r : Int} (h : SAt w b t r) (b' i : Nat) (u : Value) (hne : b ≠ b') : SAt (w.setCell ⟨b', i, none⟩ u) b t r := ⟨by rw [Below.heap_setCell w ⟨b', i, none⟩ u b hne]; exact h.own⟩

set_option maxRecDepth 100000 in
set_option maxHeartbeats 1000000 in
theorem Max_zero (A : Option Addr) (c : Nat) (w : World) (hc : c ≤ 9223372036854775807) :
    Calls Tryd.prog 24 #[.slice A 0 c] w fun x w' => x = .returned (stv 0 0) ∧ Below w.heap.size w w' := by
  go_enter Tryd.func24, Tryd.ntmps24
  go_wp2_with fail
  go_loopw [7] (fun v7 wr => v7 = .int .i64 0 ∧ SAt wr w.heap.size 0 0 ∧ Below w.heap.size w wr) (fun v7 _ => 0)
  case atStart => exact ⟨rfl, SAt.new w 0 0 _ rfl, below_alloc1 _ _⟩
  case round =>
    obtain ⟨rfl, hm, hb⟩ := hrel
    have HM := hid hm; have HB := hid hb
    have f0 := hm.fz 0; have f1 := hm.fz 1
    have c0 := hm.c0; have c1 := hm.c1
    clear hm hb
    go_wp2_with fail
    (try simp only [Exit.inBlock, Exit.then]); refine bodyPost_ret (v := stv 0 0) (by simp [results, show Tryd.f24.results = #[.cell 2 33] from rfl, go_sem, *]) rfl ?_
    exact ⟨rfl, below_put (below_put HB.out _ _ _ (Nat.le_refl _)) _ _ _ (Nat.le_refl _)⟩

set_option maxRecDepth 100000 in
theorem rMax_zero (A : Option Addr) (c : Nat) (w : World) (hc : c ≤ 9223372036854775807) :
    Calls Tryd.prog 51 #[.slice A 0 c] w fun x w' => x = .returned (stv 0 0) ∧ Below w.heap.size w w' := by
  have S0 := hid (SAt.new w 0 0 _ rfl)
  have H0 := hid (below_alloc1 w (so 0 0))
  have f0 := S0.out.fz 0; have f1 := S0.out.fz 1
  have c0 := S0.out.c0; have c1 := S0.out.c1
  go_enter Tryd.func51, Tryd.ntmps51
  go_wp2_with fail
  (try simp only [Exit.inBlock, Exit.then]); refine bodyPost_ret (v := stv 0 0) (by simp [results, show Tryd.f51.results = #[.cell 2 33] from rfl, go_sem, *]) rfl ?_
  refine ⟨rfl, ?_⟩
  repeat' first | exact H0.out | refine below_put ?_ _ _ _ (by omega)

set_option maxRecDepth 100000 in
set_option maxHeartbeats 2000000 in
theorem rMax_any (b o n c : Nat) (f : Nat → Int × Int) (w : World) (hn : n ≤ c) (hc : c ≤ 9223372036854775807) (h0 : 0 < n)
    (hx : ∀ i, i < n → w.cell? ⟨b, o + i * 2, none⟩ = some (.int .i64 (f i).1) ∧ w.cell? ⟨b, o + i * 2 + 1, none⟩ = some (.int .i64 (f i).2)) :
    Calls Tryd.prog 51 #[.slice (some ⟨b, o, none⟩) n c] w fun x w' => x = .returned (stv (smaxN f n).1 (smaxN f n).2) ∧ Below w.heap.size w w' := by
  have HX := hid hx
  have d0 := (hx 0 h0).1; have d1 := (hx 0 h0).2
  simp only [Nat.zero_mul, Nat.add_zero, Nat.zero_add] at d0 d1
  have F1 := hid (show smaxN f 1 = f 0 from if_pos (.inl rfl))
  have hn0 : ((n : Int) == 0) = false := by simp; omega
  clear hx
  have D0 := hid d0; have D1 := hid d1
  have e0 : (w.alloc (so 0 0)).cell? ⟨b, o, none⟩ = some (.int .i64 (f 0).1) := by rw [(below_alloc1 w (so 0 0)).cell (p := ⟨b, o, none⟩) (World.block_lt_of_cell? _ _ d0)]; exact d0
  have e1 : (w.alloc (so 0 0)).cell? ⟨b, o + 1, none⟩ = some (.int .i64 (f 0).2) := by rw [(below_alloc1 w (so 0 0)).cell (p := ⟨b, o + 1, none⟩) (World.block_lt_of_cell? _ _ d1)]; exact d1
  go_enter Tryd.func51, Tryd.ntmps51
  go_wp2_with fail
  clear d0 d1 e0 e1 D0 D1
  go_loopw [4] (fun v4 wr => ∃ i : Nat, 1 ≤ i ∧ i ≤ n ∧ v4 = .int .i64 i ∧ SAt wr (w.heap.size + 1) (smaxN f i).1 (smaxN f i).2 ∧ SAt wr w.heap.size 0 0 ∧ Below w.heap.size w wr) (fun v4 _ => n - (intOf v4).toNat)
  case atStart =>
    refine ⟨1, by omega, by omega, rfl, ?_, ?_, ?_⟩
    · rw [F1.out]; exact SAt.new _ _ _ _ (by simp)
    · exact (SAt.new w 0 0 _ rfl).below (below_alloc1 _ _)
    · exact below_alloc2 _ _ _
  case round =>
    obtain ⟨i, hi1, hi, rfl, hm, hz, hb⟩ := hrel
    by_cases hlt : i < n
    · have h1 := (HX.out i hlt).1
      have h2 := (HX.out i hlt).2
      rw [← hb.cell (p := ⟨b, o + i * 2, none⟩) (World.block_lt_of_cell? _ _ h1)] at h1
      rw [← hb.cell (p := ⟨b, o + i * 2 + 1, none⟩) (World.block_lt_of_cell? _ _ h2)] at h2
      have m0 := hm.c0; have m1 := hm.c1
      have HM := hid hm; have HZ := hid hz
      have hlm := hm.lt
      have HS := hid (show smaxN f (i + 1) = if i = 0 ∨ 0 < scmp (f i).1 (f i).2 (smaxN f i).1 (smaxN f i).2 then f i else smaxN f i from rfl)
      have HB := hid hb
      clear hb hm hz
      generalize smaxN f i = m at *
      generalize f i = x at *
      obtain ⟨x1, x2⟩ := x
      obtain ⟨y1, y2⟩ := m
      dsimp only at *
      have K1 := hid h1; have K2 := hid h2
      go_wp2_with fail
      refine wp_region_held_drew (S := fun w' => w'.cell? ⟨b, o + i * 2, none⟩ = some (.int .i64 x1) ∧ w'.cell? ⟨b, o + i * 2 + 1, none⟩ = some (.int .i64 x2) ∧ w'.cell? ⟨w.heap.size + 1, 0, none⟩ = some (.int .i64 y1) ∧ w'.cell? ⟨w.heap.size + 1, 1, none⟩ = some (.int .i64 y2)) (by kernel_rfl) (by exact ⟨h1, h2, m0, m1⟩) (fun hHeld => ?_)
      refine takeL 0 (v := ?_) rfl (by kernel_rfl) (by kernel_rfl) (by kernel_rfl) (fun _ _ _ h => h) (by rfl) ?_ (by assumption) ?_
      case' refine_2 => (intro w hSw; (try dsimp only at hSw); go_simp; try with_reducible rfl)
      try simp only [Act.put, List.setIfInBounds_toArray, List.set_cons_zero, List.set_cons_succ]
      refine takeL 1 (v := ?_) rfl (by kernel_rfl) (by kernel_rfl) (by kernel_rfl) (fun _ _ _ h => h) (by rfl) ?_ (by assumption) ?_
      case' refine_2 => (intro w hSw; (try dsimp only at hSw); go_simp; try with_reducible rfl)
      try simp only [Act.put, List.setIfInBounds_toArray, List.set_cons_zero, List.set_cons_succ]
      refine takeL 2 (v := ?_) rfl (by kernel_rfl) (by kernel_rfl) (by kernel_rfl) (fun _ _ _ h => h) (by rfl) ?_ (by assumption) ?_
      case' refine_2 => (intro w hSw; (try dsimp only at hSw); go_simp; try with_reducible rfl)
      try simp only [Act.put, List.setIfInBounds_toArray, List.set_cons_zero, List.set_cons_succ]
      refine takeL 3 (v := ?_) rfl (by kernel_rfl) (by kernel_rfl) (by kernel_rfl) (fun _ _ _ h => h) (by rfl) ?_ (by assumption) ?_
      case' refine_2 => (intro w hSw; (try dsimp only at hSw); go_simp; try with_reducible rfl)
      try simp only [Act.put, List.setIfInBounds_toArray, List.set_cons_zero, List.set_cons_succ]
      refine takeL 4 (v := ?_) rfl (by kernel_rfl) (by kernel_rfl) (by kernel_rfl) (fun _ _ _ h => h) (by rfl) ?_ (by assumption) ?_
      case' refine_2 => (intro w hSw; (try dsimp only at hSw); go_simp; try with_reducible rfl)
      try simp only [Act.put, List.setIfInBounds_toArray, List.set_cons_zero, List.set_cons_succ]
      refine soloL 5 rfl (by kernel_rfl) (fun K hK => ?_)
      go_simp
      go_at_call 50
      refine (rCompare2_any x1 x2 y1 y2 _).mono ?_
      rintro e w3 ⟨rfl, hb3⟩
      have M3 := hid (HM.out.drew.below hb3)
      have Z3 := hid (HZ.out.drew.below hb3)
      have B3 := hid (below_then HB.out.drew hb3)
      have k1 : w3.cell? ⟨b, o + i * 2, none⟩ = some (.int .i64 x1) := by rw [hb3.cell (p := ⟨b, o + i * 2, none⟩) (World.block_lt_of_cell? _ _ K1.out)]; exact K1.out
      have k2 : w3.cell? ⟨b, o + i * 2 + 1, none⟩ = some (.int .i64 x2) := by rw [hb3.cell (p := ⟨b, o + i * 2 + 1, none⟩) (World.block_lt_of_cell? _ _ K2.out)]; exact K2.out
      clear hb3 h1 h2 m0 m1
      go_wp2_with fail
      refine hK.out _ _ ⟨k1, k2, M3.out.c0, M3.out.c1⟩ (fun hHeld => ?_)
      clear hK K
      refine takeL 6 (v := ?_) rfl (by kernel_rfl) (by kernel_rfl) (by kernel_rfl) (fun _ _ _ h => h) (by rfl) ?_ (by assumption) ?_
      case' refine_2 => (intro w hSw; (try dsimp only at hSw); go_simp; try with_reducible rfl)
      try simp only [Act.put, List.setIfInBounds_toArray, List.set_cons_zero, List.set_cons_succ]
      refine wpAnyH_done (by kernel_rfl) ?_ _
      have f0 := M3.out.fz 0; have f1 := M3.out.fz 1
      have hl3 := M3.out.lt
      by_cases hgt : 0 < scmp x1 x2 y1 y2
      · have hS2 := hid (HS.out.trans (if_pos (.inr hgt)))
        generalize scmp x1 x2 y1 y2 = sc at *
        go_wp2_with fail
        go_roundw
        case rel =>
          refine ⟨i + 1, by omega, by omega, by go_num, ?_, ?_, ?_⟩
          · rw [hS2.out]; exact M3.out.set _ _
          · exact (Z3.out.off _ _ _ (by omega)).off _ _ _ (by omega)
          · exact below_put (below_put B3.out _ _ _ (by omega)) _ _ _ (by omega)
        case measure => simp [intOf]; omega
      · have hS2 := hid (HS.out.trans (if_neg (by omega)))
        generalize scmp x1 x2 y1 y2 = sc at *
        have hgt' : sc ≤ 0 := by omega
        go_wp2_with fail
        all_goals
          refine ⟨⟨i + 1, by omega, by omega, by go_num, by rw [hS2.out]; exact M3.out, Z3.out, B3.out⟩, ?_⟩
          simp [intOf]; omega
    · have hin : i = n := by omega
      subst hin
      have HB := hid hb
      have f0 := hz.fz 0; have f1 := hz.fz 1
      have c0 := hz.c0; have c1 := hz.c1
      have m0 := hm.c0; have m1 := hm.c1
      have hlz := hz.lt
      clear hb hm hz
      go_wp2_with fail
      (try simp only [Exit.inBlock, Exit.then]); refine bodyPost_ret (v := stv (smaxN f i).1 (smaxN f i).2) (by simp [results, show Tryd.f51.results = #[.cell 2 33] from rfl, go_sem, *]) rfl ?_
      exact ⟨rfl, below_put (below_put HB.out _ _ _ (Nat.le_refl _)) _ _ _ (Nat.le_refl _)⟩
theorem smaxL_zero {l : List (Int × Int)} (h : l.length = 0) : smaxL l = (0, 0) := by unfold smaxL; rw [h]; rfl
theorem Max_all (A : Option Addr) (n c : Nat) (l : List (Int × Int)) (w : World) (h : IsSt w A n c l) :
    Calls Tryd.prog 24 #[.slice A n c] w fun x w' => x = .returned (stv (smaxL l).1 (smaxL l).2) ∧ Below w.heap.size w w' := by
  by_cases h0 : n = 0
  · subst h0
    rw [smaxL_zero h.len]
    exact Max_zero A c w h.max
  · obtain ⟨b, o, rfl, hx⟩ := h.at_ (by omega)
    have := Max_any b o n c (fun i => l.getD i (0, 0)) w h.cap h.max hx
    rw [← h.len] at this ⊢
    exact this
theorem rMax_all (A : Option Addr) (n c : Nat) (l : List (Int × Int)) (w : World) (h : IsSt w A n c l) :
    Calls Tryd.prog 51 #[.slice A n c] w fun x w' => x = .returned (stv (smaxL l).1 (smaxL l).2) ∧ Below w.heap.size w w' := by
  by_cases h0 : n = 0
  · subst h0
    rw [smaxL_zero h.len]
    exact rMax_zero A c w h.max
  · obtain ⟨b, o, rfl, hx⟩ := h.at_ (by omega)
    have := rMax_any b o n c (fun i => l.getD i (0, 0)) w h.cap h.max (by omega) hx
    rw [← h.len] at this ⊢
    exact this
end Go.Proofs.YtdbghnfmhgjkaaaDoor
/- StW: Two readers side by side; stamps' bytes on both sides. -/
namespace Go.Proofs.YtdbghnfmhgjkaaaDoor
open Go.RowKit Go.Dio
set_option linter.unusedVariables false
set_option linter.unusedSimpArgs false

theorem doc_cells (A : Option Addr) (n c : Nat) (a e : Int) (i : Nat) (x : Int) : (#[Value.slice A n c, .int .i64 a, .int .i64 e])[i]? ≠ some (.int .u8 x) := by
  match i with
  | 0 => simp
  | 1 => simp
  | 2 => simp
  | i + 3 => simp
theorem rdr_cells (A : Option Addr) (n c : Nat) (e : Int) (b : Bool) (i : Nat) (x : Int) : (#[Value.slice A n c, .int .i64 e, .bool b])[i]? ≠ some (.int .u8 x) := by
  match i with
  | 0 => simp
  | 1 => simp
  | 2 => simp
  | i + 3 => simp
/-- The program's reader stays as it is while the document's one reads. -/
theorem RdrAt.side {w w' : World} {b b' rb qb : Nat} {s t : Rst} (h : RdrAt w b rb s) (d : DocAt w b' qb t) (hne : rb ≠ qb) (hg : w.grownBy w' (some qb)) : RdrAt w' b rb s := by
  obtain ⟨h1, A, n, c, xs, at_, h2, -⟩ := d
  exact h.other h2 (doc_cells _ _ _ _ _) (fun e => hne e.symm) fun k hk hlt => hg.block k hlt (fun e => hk (by cases e; rfl))
/-- .. and the other way. -/
theorem DocAt.side {w w' : World} {b b' rb qb : Nat} {s t : Rst} (h : DocAt w b qb s) (d : RdrAt w b' rb t) (hne : rb ≠ qb) (hg : w.grownBy w' (some rb)) : DocAt w' b qb s := by
  obtain ⟨h1, A, n, c, h2, -⟩ := d
  exact h.other h2 (rdr_cells _ _ _ _ _) hne fun k hk hlt => hg.block k hlt (fun e => hk (by cases e; rfl))
theorem st_lit (w : World) (base : Nat) (hb : base ≤ w.heap.size) : (w.alloc (.cells #[] 33)).ownsRow base 33 2 (.slice (some ⟨w.heap.size, 0, none⟩) 0 0) 0 [] := by
  have h := World.ownsRow_lit (base := base) (e := 33) (size := 2) w #[] 0 hb (by simp [maxLen]) (by simp)
  simpa using h
end Go.Proofs.YtdbghnfmhgjkaaaDoor
/- VcB: Layer 3: Parse at any text: a text in quotes. -/
namespace Go.Proofs.YtdbghnfmhgjkaaaDoor
open Go.RowKit Go.Dio
set_option linter.unusedVariables false
set_option linter.unusedSimpArgs false

set_option maxRecDepth 100000 in
set_option maxHeartbeats 8000000 in
theorem VParse_text (s : ByteArray) (w : World) (hs : s.size ≤ 281474976710656) (hp : PowTab w) (he : ErrsAt w) (b1 : (s.toList == [110, 111, 110, 101]) = false) (b2 : (s.toList == [121, 101, 115]) = false) (b3 : (s.toList == [110, 111]) = false) (hne : s.toList ≠ []) (hpos : 0 < s.size) (c4 : 2 ≤ s.size ∧ s[0].toNat = 34) :
    Calls Tryd.prog 54 #[.string s] w fun e w' => e = .returned (.tuple #[vv (pParse s.toList).1.1 (pParse s.toList).1.2.1 (pParse s.toList).1.2.2, .bool (pParse s.toList).2]) ∧ Below w.heap.size w w' := by
  have Z0 := hid (VAt.new w 0 0 ⟨#[]⟩ _ rfl)
  have H0 := hid (below_alloc1 w (vo 0 0 ⟨#[]⟩))
  have E0 := hid (he.below H0.out)
  have hcut := Tryd.strings_CutSuffix s ⟨#[102]⟩
  have HPW := hid hp
  clear hp he
  have hlen : s.toList.length = s.size := by rw [toList_eq, Array.length_toList]; rfl
  have htl := trim_len s.toList [102]
  obtain ⟨t, ht⟩ : ∃ t, t = mkS (Lib.trimSuffix s.toList [102]) := ⟨_, rfl⟩
  obtain ⟨fx, hfx⟩ : ∃ fx, fx = Lib.hasSuffix s.toList [102] := ⟨_, rfl⟩
  have htz : t.size ≤ 281474976710656 := by rw [ht, mkS_size]; omega
  have hta : t.data.toList = Lib.trimSuffix s.toList [102] := by rw [ht, mkS_toList]
  have HTA := hid hta
  have HF := hid hfx
  have hcut' : ∀ w, Calls Tryd.prog 93 #[.string s, .string ⟨#[102]⟩] w fun e w' => e = .returned (.tuple #[.string t, .bool fx]) ∧ w' = w := fun w => by
    rw [ht, hfx, toList_eq]; exact hcut w (by omega)
  have HC := hid hcut'
  have HLEN := hid hlen
  clear ht hfx hcut hcut' htl hta hlen
  go_enter Tryd.func54, Tryd.ntmps54
  go_wp2_with fail
  refine (HC.out _).mono ?_
  rintro e w1 ⟨rfl, hw⟩
  have hw := hw.symm; subst hw
  go_wp2_with fail
  refine (Atoi_all t _ htz E0.out).mono ?_
  rintro e w2 ⟨⟨n, er, rfl, ho⟩, hb⟩
  have H2 := hid (below_then H0.out hb)
  have Z2 := hid (Z0.out.below hb)
  have HO := hid (show AtoiOut (Lib.trimSuffix s.toList [102]) n er by rw [← HTA.out]; exact ho)
  clear hb ho
  have f0 := Z2.out.fz 0; have f1 := Z2.out.fz 1; have f2 := Z2.out.fz 2
  have z0 := Z2.out.c0; have z1 := Z2.out.c1; have z2 := Z2.out.c2
  have hlz := Z2.out.lt
  have her : (∃ ty pv, er = .iface ty pv) ∨ er = .nilIface := by
    rcases HO.out with ⟨_, h, _⟩ | ⟨_, h, _⟩
    · exact .inr h
    · exact .inl h
  have HNE := hid hne
  have hemp : s.toList.isEmpty = false := by rcases hx : s.toList with _ | _; exact absurd hx hne; rfl
  have hh := head34 s hpos
  · have b4 : ((s[0].toNat : Int) == 34) = true := by simp; omega
    have HPV := hid (pv0_text b1 b2 b3 ⟨by rw [HLEN.out]; exact c4.1, hh.2 c4.2⟩)
    have hext : s.extract 1 (s.size - 1) = mkS ((s.toList.drop 1).take (s.toList.length - 2)) := by
      rw [extract_mk, ← toList_eq, HLEN.out]
      congr 2
    have hsz4 : (s.extract 1 (s.size - 1)).size ≤ 9223372036854775807 := by
      rw [hext, mkS_size]; have hL := HLEN.out; have h1 := List.length_take_le (s.toList.length - 2) (s.toList.drop 1); omega
    have HPV2 := hid (show pv0 s.toList = (3, 0, s.extract 1 (s.size - 1)) by rw [hext]; exact HPV.out)
    have hc41 := c4.1
    clear c4 hh hext
    go_wp2_with fail
    generalize s.extract 1 (s.size - 1) = x at *
    have HB := hid (below_put (below_put (below_put H2.out w.heap.size 0 (.int .i64 3) (Nat.le_refl _)) w.heap.size 1 (.int .i64 0) (Nat.le_refl _)) w.heap.size 2 (.string x) (Nat.le_refl _))
    have Z3 := hid (VAt.set3 Z2.out 3 0 x)
    have hsz3 : (x : ByteArray).size ≤ 9223372036854775807 := hsz4
    refine (VPrint_any 3 0 x _ hsz3 (HPW.out.below HB.out)).mono ?_
    rintro e w4 ⟨rfl, hb⟩
    have H4 := hid (below_then HB.out hb)
    have Z4 := hid (Z3.out.below hb)
    clear hb f0 f1 f2 z0 z1 z2 hlz
    have f0 := Z4.out.fz 0; have f1 := Z4.out.fz 1; have f2 := Z4.out.fz 2
    have z0 := Z4.out.c0; have z1 := Z4.out.c1; have z2 := Z4.out.c2
    have hlz := Z4.out.lt
    by_cases hq : prV 3 0 x = s.toList
    · have hps := mkS_is hq
      have HQ := hid hq
      rw [hps]
      clear hq hps
      go_wp2_with fail
      (try simp only [Exit.inBlock, Exit.then]); refine bodyPost_ret (v := .tuple #[vv 3 0 x, .bool true]) (by simp [results, show Tryd.f54.results = #[.cell 2 49, .tmp 3] from rfl, go_sem, *]) rfl ?_
      refine ⟨by rw [pParse_ok HNE.out HPV2.out HQ.out], ?_⟩
      repeat' first | exact H4.out | refine below_put ?_ _ _ _ (by omega)
    · have hps := mkS_ne hq
      have HQ := hid hq
      clear hq
      generalize mkS (prV 3 0 x) = ps at *
      go_wp2_with fail
      (try simp only [Exit.inBlock, Exit.then]); refine bodyPost_ret (v := .tuple #[vv 0 0 ⟨#[]⟩, .bool false]) (by simp [results, show Tryd.f54.results = #[.cell 2 49, .tmp 3] from rfl, go_sem, *]) rfl ?_
      refine ⟨by rw [pParse_no HPV2.out HQ.out], ?_⟩
      repeat' first | exact H4.out | refine below_put ?_ _ _ _ (by omega)
end Go.Proofs.YtdbghnfmhgjkaaaDoor
/- VcC: Layer 3: Parse at any text: numbers, and no value. -/
namespace Go.Proofs.YtdbghnfmhgjkaaaDoor
open Go.RowKit Go.Dio
set_option linter.unusedVariables false
set_option linter.unusedSimpArgs false

set_option maxRecDepth 100000 in
set_option maxHeartbeats 8000000 in
theorem VParse_num (s : ByteArray) (w : World) (hs : s.size ≤ 281474976710656) (hp : PowTab w) (he : ErrsAt w) (b1 : (s.toList == [110, 111, 110, 101]) = false) (b2 : (s.toList == [121, 101, 115]) = false) (b3 : (s.toList == [110, 111]) = false) (hne : s.toList ≠ []) (hpos : 0 < s.size) (c4 : ¬ (2 ≤ s.size ∧ s[0].toNat = 34)) :
    Calls Tryd.prog 54 #[.string s] w fun e w' => e = .returned (.tuple #[vv (pParse s.toList).1.1 (pParse s.toList).1.2.1 (pParse s.toList).1.2.2, .bool (pParse s.toList).2]) ∧ Below w.heap.size w w' := by
  have Z0 := hid (VAt.new w 0 0 ⟨#[]⟩ _ rfl)
  have H0 := hid (below_alloc1 w (vo 0 0 ⟨#[]⟩))
  have E0 := hid (he.below H0.out)
  have hcut := Tryd.strings_CutSuffix s ⟨#[102]⟩
  have HPW := hid hp
  clear hp he
  have hlen : s.toList.length = s.size := by rw [toList_eq, Array.length_toList]; rfl
  have htl := trim_len s.toList [102]
  obtain ⟨t, ht⟩ : ∃ t, t = mkS (Lib.trimSuffix s.toList [102]) := ⟨_, rfl⟩
  obtain ⟨fx, hfx⟩ : ∃ fx, fx = Lib.hasSuffix s.toList [102] := ⟨_, rfl⟩
  have htz : t.size ≤ 281474976710656 := by rw [ht, mkS_size]; omega
  have hta : t.data.toList = Lib.trimSuffix s.toList [102] := by rw [ht, mkS_toList]
  have HTA := hid hta
  have HF := hid hfx
  have hcut' : ∀ w, Calls Tryd.prog 93 #[.string s, .string ⟨#[102]⟩] w fun e w' => e = .returned (.tuple #[.string t, .bool fx]) ∧ w' = w := fun w => by
    rw [ht, hfx, toList_eq]; exact hcut w (by omega)
  have HC := hid hcut'
  have HLEN := hid hlen
  clear ht hfx hcut hcut' htl hta hlen
  go_enter Tryd.func54, Tryd.ntmps54
  go_wp2_with fail
  refine (HC.out _).mono ?_
  rintro e w1 ⟨rfl, hw⟩
  have hw := hw.symm; subst hw
  go_wp2_with fail
  refine (Atoi_all t _ htz E0.out).mono ?_
  rintro e w2 ⟨⟨n, er, rfl, ho⟩, hb⟩
  have H2 := hid (below_then H0.out hb)
  have Z2 := hid (Z0.out.below hb)
  have HO := hid (show AtoiOut (Lib.trimSuffix s.toList [102]) n er by rw [← HTA.out]; exact ho)
  clear hb ho
  have f0 := Z2.out.fz 0; have f1 := Z2.out.fz 1; have f2 := Z2.out.fz 2
  have z0 := Z2.out.c0; have z1 := Z2.out.c1; have z2 := Z2.out.c2
  have hlz := Z2.out.lt
  have her : (∃ ty pv, er = .iface ty pv) ∨ er = .nilIface := by
    rcases HO.out with ⟨_, h, _⟩ | ⟨_, h, _⟩
    · exact .inr h
    · exact .inl h
  have HNE := hid hne
  have hemp : s.toList.isEmpty = false := by rcases hx : s.toList with _ | _; exact absurd hx hne; rfl
  have hh := head34 s hpos
  · have HPV := hid (pv0_no b1 b2 b3 (by rw [HLEN.out, hh]; exact c4))
    have c5 : s.size < 2 ∨ (2 ≤ s.size ∧ ((s[0].toNat : Int) == 34) = false) := by
      simp only [beq_eq_false_iff_ne]; omega
    clear hh c4
    rcases HO.out with ⟨hok, rfl, hn⟩ | ⟨hok, ⟨ty, pv, rfl⟩, hn⟩
    · rcases fx with _ | _
      · have HPV2 := hid (show pv0 s.toList = (1, n, ⟨#[]⟩) by rw [HPV.out, hok, ← HF.out]; rfl)
        have HOK := hid hok
        clear hok her
        rcases c5 with c5 | ⟨c6, c5⟩
        all_goals
          go_wp2_with fail
          have HB := hid (below_put (below_put (below_put H2.out w.heap.size 0 (.int .i64 1) (Nat.le_refl _)) w.heap.size 1 (.int .i64 n) (Nat.le_refl _)) w.heap.size 2 (.string ⟨#[]⟩) (Nat.le_refl _))
          have Z3 := hid (VAt.set3 Z2.out 1 n ⟨#[]⟩)
          have hsz3 : (⟨#[]⟩ : ByteArray).size ≤ 9223372036854775807 := by decide
          refine (VPrint_any 1 n ⟨#[]⟩ _ hsz3 (HPW.out.below HB.out)).mono ?_
          rintro e w4 ⟨rfl, hb⟩
          have H4 := hid (below_then HB.out hb)
          have Z4 := hid (Z3.out.below hb)
          clear hb f0 f1 f2 z0 z1 z2 hlz
          have f0 := Z4.out.fz 0; have f1 := Z4.out.fz 1; have f2 := Z4.out.fz 2
          have z0 := Z4.out.c0; have z1 := Z4.out.c1; have z2 := Z4.out.c2
          have hlz := Z4.out.lt
          by_cases hq : prV 1 n ⟨#[]⟩ = s.toList
          · have hps := mkS_is hq
            have HQ := hid hq
            rw [hps]
            clear hq hps
            go_wp2_with fail
            (try simp only [Exit.inBlock, Exit.then]); refine bodyPost_ret (v := .tuple #[vv 1 n ⟨#[]⟩, .bool true]) (by simp [results, show Tryd.f54.results = #[.cell 2 49, .tmp 3] from rfl, go_sem, *]) rfl ?_
            refine ⟨by rw [pParse_ok HNE.out HPV2.out HQ.out], ?_⟩
            repeat' first | exact H4.out | refine below_put ?_ _ _ _ (by omega)
          · have hps := mkS_ne hq
            have HQ := hid hq
            clear hq
            generalize mkS (prV 1 n ⟨#[]⟩) = ps at *
            go_wp2_with fail
            (try simp only [Exit.inBlock, Exit.then]); refine bodyPost_ret (v := .tuple #[vv 0 0 ⟨#[]⟩, .bool false]) (by simp [results, show Tryd.f54.results = #[.cell 2 49, .tmp 3] from rfl, go_sem, *]) rfl ?_
            refine ⟨by rw [pParse_no HPV2.out HQ.out], ?_⟩
            repeat' first | exact H4.out | refine below_put ?_ _ _ _ (by omega)
      · have HPV2 := hid (show pv0 s.toList = (2, n, ⟨#[]⟩) by rw [HPV.out, hok, ← HF.out]; rfl)
        have HOK := hid hok
        clear hok her
        rcases c5 with c5 | ⟨c6, c5⟩
        all_goals
          go_wp2_with fail
          have HB := hid (below_put (below_put (below_put H2.out w.heap.size 0 (.int .i64 2) (Nat.le_refl _)) w.heap.size 1 (.int .i64 n) (Nat.le_refl _)) w.heap.size 2 (.string ⟨#[]⟩) (Nat.le_refl _))
          have Z3 := hid (VAt.set3 Z2.out 2 n ⟨#[]⟩)
          have hsz3 : (⟨#[]⟩ : ByteArray).size ≤ 9223372036854775807 := by decide
          refine (VPrint_any 2 n ⟨#[]⟩ _ hsz3 (HPW.out.below HB.out)).mono ?_
          rintro e w4 ⟨rfl, hb⟩
          have H4 := hid (below_then HB.out hb)
          have Z4 := hid (Z3.out.below hb)
          clear hb f0 f1 f2 z0 z1 z2 hlz
          have f0 := Z4.out.fz 0; have f1 := Z4.out.fz 1; have f2 := Z4.out.fz 2
          have z0 := Z4.out.c0; have z1 := Z4.out.c1; have z2 := Z4.out.c2
          have hlz := Z4.out.lt
          by_cases hq : prV 2 n ⟨#[]⟩ = s.toList
          · have hps := mkS_is hq
            have HQ := hid hq
            rw [hps]
            clear hq hps
            go_wp2_with fail
            (try simp only [Exit.inBlock, Exit.then]); refine bodyPost_ret (v := .tuple #[vv 2 n ⟨#[]⟩, .bool true]) (by simp [results, show Tryd.f54.results = #[.cell 2 49, .tmp 3] from rfl, go_sem, *]) rfl ?_
            refine ⟨by rw [pParse_ok HNE.out HPV2.out HQ.out], ?_⟩
            repeat' first | exact H4.out | refine below_put ?_ _ _ _ (by omega)
          · have hps := mkS_ne hq
            have HQ := hid hq
            clear hq
            generalize mkS (prV 2 n ⟨#[]⟩) = ps at *
            go_wp2_with fail
            (try simp only [Exit.inBlock, Exit.then]); refine bodyPost_ret (v := .tuple #[vv 0 0 ⟨#[]⟩, .bool false]) (by simp [results, show Tryd.f54.results = #[.cell 2 49, .tmp 3] from rfl, go_sem, *]) rfl ?_
            refine ⟨by rw [pParse_no HPV2.out HQ.out], ?_⟩
            repeat' first | exact H4.out | refine below_put ?_ _ _ _ (by omega)
    · have HPV2 := hid (show pv0 s.toList = (0, 0, ⟨#[]⟩) by
        rw [HPV.out]
        rcases hx : Lib.atoiAll (Lib.trimSuffix s.toList [102]) with v | _ | _
        · exact absurd hx (hok v)
        · rfl
        · rfl)
      have HOK := hid hok
      clear hok her
      rcases c5 with c5 | ⟨c6, c5⟩
      all_goals
        cases fx
        all_goals
          go_wp2_with fail
          have HB := hid H2.out
          have Z3 := hid Z2.out
          have hsz3 : (⟨#[]⟩ : ByteArray).size ≤ 9223372036854775807 := by decide
          refine (VPrint_any 0 0 ⟨#[]⟩ _ hsz3 (HPW.out.below HB.out)).mono ?_
          rintro e w4 ⟨rfl, hb⟩
          have H4 := hid (below_then HB.out hb)
          have Z4 := hid (Z3.out.below hb)
          clear hb f0 f1 f2 z0 z1 z2 hlz
          have f0 := Z4.out.fz 0; have f1 := Z4.out.fz 1; have f2 := Z4.out.fz 2
          have z0 := Z4.out.c0; have z1 := Z4.out.c1; have z2 := Z4.out.c2
          have hlz := Z4.out.lt
          by_cases hq : prV 0 0 ⟨#[]⟩ = s.toList
          · have hps := mkS_is hq
            have HQ := hid hq
            rw [hps]
            clear hq hps
            go_wp2_with fail
            (try simp only [Exit.inBlock, Exit.then]); refine bodyPost_ret (v := .tuple #[vv 0 0 ⟨#[]⟩, .bool true]) (by simp [results, show Tryd.f54.results = #[.cell 2 49, .tmp 3] from rfl, go_sem, *]) rfl ?_
            refine ⟨by rw [pParse_ok HNE.out HPV2.out HQ.out], ?_⟩
            repeat' first | exact H4.out | refine below_put ?_ _ _ _ (by omega)
          · have hps := mkS_ne hq
            have HQ := hid hq
            clear hq
            generalize mkS (prV 0 0 ⟨#[]⟩) = ps at *
            go_wp2_with fail
            (try simp only [Exit.inBlock, Exit.then]); refine bodyPost_ret (v := .tuple #[vv 0 0 ⟨#[]⟩, .bool false]) (by simp [results, show Tryd.f54.results = #[.cell 2 49, .tmp 3] from rfl, go_sem, *]) rfl ?_
            refine ⟨by rw [pParse_no HPV2.out HQ.out], ?_⟩
            repeat' first | exact H4.out | refine below_put ?_ _ _ _ (by omega)
end Go.Proofs.YtdbghnfmhgjkaaaDoor
/- VcE: Layer 3: Parse at any text. -/
namespace Go.Proofs.YtdbghnfmhgjkaaaDoor
open Go.RowKit Go.Dio
set_option linter.unusedVariables false
set_option linter.unusedSimpArgs false
theorem VParse_any (s : ByteArray) (w : World) (hs : s.size ≤ 281474976710656) (hp : PowTab w) (he : ErrsAt w) :
    Calls Tryd.prog 54 #[.string s] w fun e w' => e = .returned (.tuple #[vv (pParse s.toList).1.1 (pParse s.toList).1.2.1 (pParse s.toList).1.2.2, .bool (pParse s.toList).2]) ∧ Below w.heap.size w w' := by
  by_cases hA : s.toList = [] ∨ s.toList = [110, 111, 110, 101] ∨ s.toList = [121, 101, 115] ∨ s.toList = [110, 111]
  · exact VParse_word s w hs hp he hA
  · simp only [not_or] at hA
    obtain ⟨h0, h1, h2, h3⟩ := hA
    have hlen : s.toList.length = s.size := by rw [toList_eq, Array.length_toList]; rfl
    have hpos : 0 < s.size := by
      rcases hx : s.toList with _ | ⟨a, l⟩
      · exact absurd hx h0
      · rw [hx] at hlen; simp at hlen; omega
    have b1 : (s.toList == [110, 111, 110, 101]) = false := by simpa using h1
    have b2 : (s.toList == [121, 101, 115]) = false := by simpa using h2
    have b3 : (s.toList == [110, 111]) = false := by simpa using h3
    by_cases c4 : 2 ≤ s.size ∧ s[0].toNat = 34
    · exact VParse_text s w hs hp he b1 b2 b3 h0 hpos c4
    · exact VParse_num s w hs hp he b1 b2 b3 h0 hpos c4
end Go.Proofs.YtdbghnfmhgjkaaaDoor
/- VaJ: Layer 3: the document's Over. -/
namespace Go.Proofs.YtdbghnfmhgjkaaaDoor
open Go.RowKit Go.Dio
set_option linter.unusedVariables false
set_option linter.unusedSimpArgs false

set_option maxRecDepth 100000 in
set_option maxHeartbeats 2000000 in
theorem rOver_any (k n : Int) (s : ByteArray) (k' n' : Int) (s' : ByteArray) (w : World) (hs : s.size ≤ 9223372036854775807) (hs' : s'.size ≤ 9223372036854775807) :
    Calls Tryd.prog 32 #[vv k n s, vv k' n' s'] w fun e w' => e = .returned (vans (vover k n s k' n' s')) ∧ Below w.heap.size w w' := by
  obtain ⟨V, hV⟩ : ∃ V, V = ((w.alloc (vo k n s)).alloc (vo k' n' s')).alloc (vo 0 0 ⟨#[]⟩) := ⟨_, rfl⟩
  have VA := hid (show VAt V w.heap.size k n s by rw [hV]; exact ((VAt.new w k n s _ rfl).below (below_alloc1 _ _)).below (below_alloc1 _ _))
  have VB := hid (show VAt V (w.heap.size + 1) k' n' s' by rw [hV]; exact (VAt.new _ k' n' s' _ (by simp)).below (below_alloc1 _ _))
  have VR := hid (show VAt V (w.heap.size + 1 + 1) 0 0 ⟨#[]⟩ by rw [hV]; exact VAt.new _ 0 0 _ _ (by simp))
  have HV := hid (show Below w.heap.size w V by rw [hV]; exact below_new (below_new (below_alloc1 w _) _) _)
  have HVE := hid hV; clear hV
  have hve := hid (vover_eq k n s k' n' s')
  rcases hb : vboth k n s k' n' s' with _ | _
  all_goals
    have HBB := hid hb
    go_enter Tryd.func32, Tryd.ntmps32
    go_wp2_with fail
    rw [← HVE.out]
    refine (both3_any k n s k' n' s' V hs hs').mono ?_
    rw [hb]
    rintro e w1 ⟨rfl, hb1⟩
    have H1 := hid (below_then HV.out hb1)
    have VR1 := hid (VR.out.below hb1)
    have VA1 := hid (VA.out.below hb1)
    have VB1 := hid (VB.out.below hb1)
    clear hb1 hb
  · have f0 := VR1.out.fz 0; have f1 := VR1.out.fz 1; have f2 := VR1.out.fz 2
    have r0 := VR1.out.c0; have r1 := VR1.out.c1; have r2 := VR1.out.c2
    have hl := VR1.out.lt
    go_wp2_with fail
    (try simp only [Exit.inBlock, Exit.then]); refine bodyPost_ret (v := .tuple #[vv 0 0 ⟨#[]⟩, .int .i64 1]) (by simp [results, show Tryd.f32.results = #[.cell 4 49, .tmp 5] from rfl, go_sem, *]) rfl ?_
    refine ⟨by rw [hve.out, HBB.out]; rfl, ?_⟩
    repeat' first | exact H1.out | refine below_put ?_ _ _ _ (by omega) | refine below_new ?_ _ | refine Below.drew ?_
  · obtain ⟨hk, hkk, hn, hn'⟩ := vboth_kind HBB.out
    subst hkk
    have a0 := VA1.out.c0; have a1 := VA1.out.c1; have b1 := VB1.out.c1
    by_cases hz : n' = 0
    · have HZ := hid hz
      subst hz
      have f0 := VR1.out.fz 0; have f1 := VR1.out.fz 1; have f2 := VR1.out.fz 2
      have r0 := VR1.out.c0; have r1 := VR1.out.c1; have r2 := VR1.out.c2
      have hl := VR1.out.lt
      go_wp2_with fail
      (try simp only [Exit.inBlock, Exit.then]); refine bodyPost_ret (v := .tuple #[vv 0 0 ⟨#[]⟩, .int .i64 31]) (by simp [results, show Tryd.f32.results = #[.cell 4 49, .tmp 5] from rfl, go_sem, *]) rfl ?_
      refine ⟨by rw [hve.out, HBB.out, if_pos rfl, if_pos trivial], ?_⟩
      repeat' first | exact H1.out | refine below_put ?_ _ _ _ (by omega) | refine below_new ?_ _ | refine Below.drew ?_
    · have HN := hid hz
      have hz1 : (n' == 0) = false := by simp; omega
      clear hz
      have hx := vabs_le hn
      have hy := vabs_le hn'
      have hy0 : 0 < vabs n' := by unfold vabs; have := HN.out; split <;> omega
      rcases hk with rfl | rfl
      · have hD : (vabs n).tdiv (vabs n') = vabs n / vabs n' := Int.tdiv_eq_ediv_of_nonneg hx.1
        have hD0 : 0 ≤ vabs n / vabs n' := Int.ediv_nonneg hx.1 hy.1
        have hD1 : vabs n / vabs n' ≤ vabs n := Int.ediv_le_self (vabs n') hx.1
        have HQ := hid (vquo1 (vabs n) (vabs n'))
        have hab := hid hn; have hab' := hid hn'
        go_wp2_with fail
        refine (abs3_any n _ hab.out).mono ?_
        rintro e wN ⟨rfl, rfl⟩
        go_wp2_with fail
        refine (abs3_any n' _ hab'.out).mono ?_
        rintro e wN ⟨rfl, rfl⟩
        have hyz : (vabs n' == 0) = false := by simp; omega
        go_wp2_with fail
        generalize vabs n = X at *
        generalize vabs n' = Y at *
        refine wp_region_held_drew (S := fun w' => w'.cell? ⟨w.heap.size, 0, none⟩ = some (.int .i64 1) ∧ w'.cell? ⟨w.heap.size, 1, none⟩ = some (.int .i64 n) ∧ w'.cell? ⟨w.heap.size + 1, 1, none⟩ = some (.int .i64 n')) (by kernel_rfl) (by exact ⟨a0, a1, b1⟩) (fun hHeld => ?_)
        refine takeL 0 (v := ?_) rfl (by kernel_rfl) (by kernel_rfl) (by kernel_rfl) (fun _ _ _ h => h) (by rfl) ?_ (by assumption) ?_
        case' refine_2 => (intro w hSw; (try dsimp only at hSw); go_simp; try with_reducible rfl)
        try simp only [Act.put, List.setIfInBounds_toArray, List.set_cons_zero, List.set_cons_succ]
        refine takeL 1 (v := ?_) rfl (by kernel_rfl) (by kernel_rfl) (by kernel_rfl) (fun _ _ _ h => h) (by rfl) ?_ (by assumption) ?_
        case' refine_2 => (intro w hSw; (try dsimp only at hSw); go_simp; try with_reducible rfl)
        try simp only [Act.put, List.setIfInBounds_toArray, List.set_cons_zero, List.set_cons_succ]
        refine takeL 2 (v := .int .i64 (X / Y)) rfl (by kernel_rfl) (by kernel_rfl) (by kernel_rfl) (fun _ _ _ h => h) (by rfl) ?_ (by assumption) ?_
        · intro w hSw
          go_simp
          rw [if_neg (by omega), show IntKind.i64.wrap (X / Y) = X / Y by simp only [IntKind.wrap_i64]; omega]
        try simp only [Act.put, List.setIfInBounds_toArray, List.set_cons_zero, List.set_cons_succ]
        refine takeL 3 (v := ?_) rfl (by kernel_rfl) (by kernel_rfl) (by kernel_rfl) (fun _ _ _ h => h) (by rfl) ?_ (by assumption) ?_
        case' refine_2 => (intro w hSw; (try dsimp only at hSw); go_simp; try with_reducible rfl)
        try simp only [Act.put, List.setIfInBounds_toArray, List.set_cons_zero, List.set_cons_succ]
        refine takeL 4 (v := ?_) rfl (by kernel_rfl) (by kernel_rfl) (by kernel_rfl) (fun _ _ _ h => h) (by rfl) ?_ (by assumption) ?_
        case' refine_2 => (intro w hSw; (try dsimp only at hSw); go_simp; try with_reducible rfl)
        try simp only [Act.put, List.setIfInBounds_toArray, List.set_cons_zero, List.set_cons_succ]
        refine takeL 5 (v := ?_) rfl (by kernel_rfl) (by kernel_rfl) (by kernel_rfl) (fun _ _ _ h => h) (by rfl) ?_ (by assumption) ?_
        case' refine_2 => (intro w hSw; (try dsimp only at hSw); go_simp; try with_reducible rfl)
        try simp only [Act.put, List.setIfInBounds_toArray, List.set_cons_zero, List.set_cons_succ]
        refine takeL 6 (v := ?_) rfl (by kernel_rfl) (by kernel_rfl) (by kernel_rfl) (fun _ _ _ h => h) (by rfl) ?_ (by assumption) ?_
        case' refine_2 => (intro w hSw; (try dsimp only at hSw); go_simp; try with_reducible rfl)
        try simp only [Act.put, List.setIfInBounds_toArray, List.set_cons_zero, List.set_cons_succ]
        refine soloL 7 rfl (by kernel_rfl) (fun K hK => ?_)
        go_simp
        go_at_call 78
        refine (signed3_any (X / Y) n n' _ (by omega)).mono ?_
        rintro e wN ⟨rfl, rfl⟩
        go_wp2_with fail
        refine hK.out _ _ hHeld (fun hHeld => ?_)
        clear hK K
        refine soloL 8 rfl (by kernel_rfl) (fun K hK => ?_)
        go_simp
        go_at_call 77
        refine (answer3_any 1 (vsgn n n' (X / Y)) _).mono ?_
        rintro e w2 ⟨rfl, hb2⟩
        have H2 := hid (below_then H1.out.drew hb2)
        have VR2 := hid (VR1.out.drew.below hb2)
        have VA2 := hid (VA1.out.drew.below hb2)
        have VB2 := hid (VB1.out.drew.below hb2)
        clear hb2
        have f0 := VR2.out.fz 0; have f1 := VR2.out.fz 1; have f2 := VR2.out.fz 2
        have r0 := VR2.out.c0; have r1 := VR2.out.c1; have r2 := VR2.out.c2
        have hl := VR2.out.lt
        rcases hr : vanswer 1 (vsgn n n' (X / Y)) with ⟨⟨x1, x2⟩, x3⟩
        have HR := hid hr
        clear hr
        dsimp only at *
        go_wp2_with fail
        refine hK.out _ _ ⟨VA2.out.c0, VA2.out.c1, VB2.out.c1⟩ (fun hHeld => ?_)
        clear hK K
        refine takeL 9 (v := ?_) rfl (by kernel_rfl) (by kernel_rfl) (by kernel_rfl) (fun _ _ _ h => h) (by rfl) ?_ (by assumption) ?_
        case' refine_2 => (intro w hSw; (try dsimp only at hSw); go_simp; try with_reducible rfl)
        try simp only [Act.put, List.setIfInBounds_toArray, List.set_cons_zero, List.set_cons_succ]
        refine takeL 10 (v := ?_) rfl (by kernel_rfl) (by kernel_rfl) (by kernel_rfl) (fun _ _ _ h => h) (by rfl) ?_ (by assumption) ?_
        case' refine_2 => (intro w hSw; (try dsimp only at hSw); go_simp; try with_reducible rfl)
        try simp only [Act.put, List.setIfInBounds_toArray, List.set_cons_zero, List.set_cons_succ]
        refine soloL 11 rfl (by kernel_rfl) (fun K hK => ?_)
        go_simp
        have HP := below_put (below_put (below_put (Below.refl (w.heap.size + 1 + 1) w2) (w.heap.size + 1 + 1) 0 (.int .i64 x1) (Nat.le_refl _)) (w.heap.size + 1 + 1) 1 (.int .i64 x2) (Nat.le_refl _)) (w.heap.size + 1 + 1) 2 (.string ⟨#[]⟩) (Nat.le_refl _)
        refine hK.out _ _ ⟨by rw [HP.cell (p := ⟨w.heap.size, 0, none⟩) (by simp; omega)]; exact VA2.out.c0, by rw [HP.cell (p := ⟨w.heap.size, 1, none⟩) (by simp; omega)]; exact VA2.out.c1, by rw [HP.cell (p := ⟨w.heap.size + 1, 1, none⟩) (by simp)]; exact VB2.out.c1⟩ (fun hHeld => ?_)
        clear hK K HP
        refine takeL 12 (v := ?_) rfl (by kernel_rfl) (by kernel_rfl) (by kernel_rfl) (fun _ _ _ h => h) (by rfl) ?_ (by assumption) ?_
        case' refine_2 => (intro w hSw; (try dsimp only at hSw); go_simp; try with_reducible rfl)
        try simp only [Act.put, List.setIfInBounds_toArray, List.set_cons_zero, List.set_cons_succ]
        refine wpAnyH_done (by kernel_rfl) ?_ _
        go_wp2_with fail
        (try simp only [Exit.inBlock, Exit.then]); refine bodyPost_ret (v := .tuple #[vv x1 x2 ⟨#[]⟩, .int .i64 x3]) (by simp [results, show Tryd.f32.results = #[.cell 4 49, .tmp 5] from rfl, go_sem, *]) rfl ?_
        refine ⟨by rw [hve.out, HBB.out, if_pos rfl, if_neg HN.out, HQ.out, HR.out], ?_⟩
        repeat' first | exact H2.out | refine below_put ?_ _ _ _ (by omega) | refine below_new ?_ _ | refine Below.drew ?_
      · have hD : (vabs n * 65536).tdiv (vabs n') = vabs n * 65536 / vabs n' := Int.tdiv_eq_ediv_of_nonneg (by omega)
        have hR : (vabs n * 65536).tmod (vabs n') = vabs n * 65536 % vabs n' := Int.tmod_eq_emod_of_nonneg (by omega)
        have hD0 : 0 ≤ vabs n * 65536 / vabs n' := Int.ediv_nonneg (by omega) hy.1
        have hD1 : vabs n * 65536 / vabs n' ≤ vabs n * 65536 := Int.ediv_le_self (vabs n') (by omega)
        have hR0 : 0 ≤ vabs n * 65536 % vabs n' := Int.emod_nonneg _ (by omega)
        have hR1 : vabs n * 65536 % vabs n' < vabs n' := Int.emod_lt_of_pos _ (by omega)
        have HQ := hid (vquo2 (vabs n) (vabs n'))
        have hab := hid hn; have hab' := hid hn'
        go_wp2_with fail
        refine (abs3_any n _ hab.out).mono ?_
        rintro e wN ⟨rfl, rfl⟩
        go_wp2_with fail
        refine (abs3_any n' _ hab'.out).mono ?_
        rintro e wN ⟨rfl, rfl⟩
        have hyz : (vabs n' == 0) = false := by simp; omega
        generalize vabs n = X at *
        generalize vabs n' = Y at *
        by_cases hge : Y ≤ 2 * (X * 65536 % Y)
        · have HQ := hid (HQ.out.trans (by rw [if_pos hge]))
          have hge' : Y ≤ X * 65536 % Y * 2 := by omega
          go_wp2_with fail
          refine (signed3_any (X * 65536 / Y + 1) n n' _ (by omega)).mono ?_
          rintro e wN ⟨rfl, rfl⟩
          go_wp2_with fail
          refine (answer3_any 2 (vsgn n n' (X * 65536 / Y + 1)) _).mono ?_
          rintro e w2 ⟨rfl, hb2⟩
          have H2 := hid (below_then H1.out hb2)
          have VR2 := hid (VR1.out.below hb2)
          have VA2 := hid (VA1.out.below hb2)
          have VB2 := hid (VB1.out.below hb2)
          clear hb2
          have f0 := VR2.out.fz 0; have f1 := VR2.out.fz 1; have f2 := VR2.out.fz 2
          have r0 := VR2.out.c0; have r1 := VR2.out.c1; have r2 := VR2.out.c2
          have hl := VR2.out.lt
          rcases hr : vanswer 2 (vsgn n n' (X * 65536 / Y + 1)) with ⟨⟨x1, x2⟩, x3⟩
          have HR := hid hr
          clear hr
          dsimp only at *
          go_wp2_with fail
          (try simp only [Exit.inBlock, Exit.then]); refine bodyPost_ret (v := .tuple #[vv x1 x2 ⟨#[]⟩, .int .i64 x3]) (by simp [results, show Tryd.f32.results = #[.cell 4 49, .tmp 5] from rfl, go_sem, *]) rfl ?_
          refine ⟨by rw [hve.out, HBB.out, if_pos rfl, if_neg HN.out, HQ.out, HR.out], ?_⟩
          repeat' first | exact H2.out | refine below_put ?_ _ _ _ (by omega) | refine below_new ?_ _ | refine Below.drew ?_
        · have HQ := hid (HQ.out.trans (by rw [if_neg hge, Int.add_zero]))
          have hge' : ¬ Y ≤ X * 65536 % Y * 2 := by omega
          go_wp2_with fail
          refine (signed3_any (X * 65536 / Y) n n' _ (by omega)).mono ?_
          rintro e wN ⟨rfl, rfl⟩
          go_wp2_with fail
          refine (answer3_any 2 (vsgn n n' (X * 65536 / Y)) _).mono ?_
          rintro e w2 ⟨rfl, hb2⟩
          have H2 := hid (below_then H1.out hb2)
          have VR2 := hid (VR1.out.below hb2)
          have VA2 := hid (VA1.out.below hb2)
          have VB2 := hid (VB1.out.below hb2)
          clear hb2
          have f0 := VR2.out.fz 0; have f1 := VR2.out.fz 1; have f2 := VR2.out.fz 2
          have r0 := VR2.out.c0; have r1 := VR2.out.c1; have r2 := VR2.out.c2
          have hl := VR2.out.lt
          rcases hr : vanswer 2 (vsgn n n' (X * 65536 / Y)) with ⟨⟨x1, x2⟩, x3⟩
          have HR := hid hr
          clear hr
          dsimp only at *
          go_wp2_with fail
          (try simp only [Exit.inBlock, Exit.then]); refine bodyPost_ret (v := .tuple #[vv x1 x2 ⟨#[]⟩, .int .i64 x3]) (by simp [results, show Tryd.f32.results = #[.cell 4 49, .tmp 5] from rfl, go_sem, *]) rfl ?_
          refine ⟨by rw [hve.out, HBB.out, if_pos rfl, if_neg HN.out, HQ.out, HR.out], ?_⟩
          repeat' first | exact H2.out | refine below_put ?_ _ _ _ (by omega) | refine below_new ?_ _ | refine Below.drew ?_
end Go.Proofs.YtdbghnfmhgjkaaaDoor
/- ShV: Values, as they come in; the walk of ValueTimes over them. -/
namespace Go.Proofs.YtdbghnfmhgjkaaaDoor
open Go.RowKit Go.Dio
set_option linter.unusedVariables false
set_option linter.unusedSimpArgs false

/-- A value's shape. -/
@[reducible] def shValue : Sh := .pair (.int .i64) (.pair (.int .i64) (.pair .str .unit))
theorem value_cells {w : World} {cs : List Value} {x : shValue.T} (h : shValue.reads w cs x) : cs = [.int .i64 x.1, .int .i64 x.2.1, .string x.2.2.1] ∧ (Lit.int .i64 x.1).wf = true ∧ (Lit.int .i64 x.2.1).wf = true ∧ x.2.2.1.size ≤ 9223372036854775807 := by
  obtain ⟨c1, c2, h0, ⟨rfl, h1⟩, c3, c4, rfl, ⟨rfl, h2⟩, c5, c6, rfl, ⟨rfl, h3⟩, h4⟩ := h
  have : c6 = [] := h4
  subst this
  exact ⟨h0, h1, h2, h3⟩
theorem value_cut {w : World} {a : Array Value} {x : shValue.T} (h : shValue.reads w a.toList x) : a = #[.int .i64 x.1, .int .i64 x.2.1, .string x.2.2.1] := Array.toList_inj.1 (value_cells h).1
theorem ValueTimes_row (a : Array Value) (x : shValue.T) (b : Array Value) (y : shValue.T) (w : World) (ha : shValue.reads w a.toList x) (hb : shValue.reads w b.toList y) :
    Calls Tryd.prog 7 #[.agg a, .agg b] w fun e w' => e = .returned (.bool true) ∧ Below w.heap.size w w' := by
  rw [value_cut ha, value_cut hb]
  exact ValueTimes_walk _ _ _ _ _ _ w (value_cells ha).2.2.2 (value_cells hb).2.2.2
end Go.Proofs.YtdbghnfmhgjkaaaDoor
/- VaK: Layer 3: Add; the walks of ValueSums, ValueOvers. -/
namespace Go.Proofs.YtdbghnfmhgjkaaaDoor
open Go.RowKit Go.Dio
set_option linter.unusedVariables false
set_option linter.unusedSimpArgs false

/-- What 'reckon' answers to Add. -/
theorem reckonA_any (k n : Int) (s : ByteArray) (k' n' : Int) (s' : ByteArray) (w : World) (hs : s.size ≤ 9223372036854775807) (hs' : s'.size ≤ 9223372036854775807) :
    Calls Tryd.prog 70 #[vv k n s, vv k' n' s', .func (.func 79) #[] #[]] w fun e w' => (∃ x1 x2, e = .returned (.tuple #[vv x1 x2 ⟨#[]⟩, .int .i64 (if vboth k n s k' n' s' = true then 0 else 1)])) ∧ Below w.heap.size w w' := by
  rcases hb : vboth k n s k' n' s' with _ | _
  · refine (reckonA_no k n s k' n' s' w hs hs' hb).mono ?_
    rintro e w' ⟨rfl, h⟩
    exact ⟨⟨0, 0, rfl⟩, h⟩
  · refine (reckonA_ok k n s k' n' s' w hs hs' hb).mono ?_
    rintro e w' ⟨⟨m, er, rfl, h1⟩, h⟩
    rcases h1 with ⟨rfl, rfl, _⟩ | ⟨_, h1⟩
    · exact ⟨⟨_, _, rfl⟩, h⟩
    · obtain ⟨hk, _, hn, _⟩ := vboth_kind hb
      have := vabs_le hn
      omega

set_option maxRecDepth 100000 in
set_option maxHeartbeats 2000000 in
theorem Add_any (k n : Int) (s : ByteArray) (k' n' : Int) (s' : ByteArray) (w : World) (hs : s.size ≤ 9223372036854775807) (hs' : s'.size ≤ 9223372036854775807) :
    Calls Tryd.prog 29 #[vv k n s, vv k' n' s'] w fun e w' => e = .returned (vans (vadd k n s k' n' s')) ∧ Below w.heap.size w w' := by
  obtain ⟨V, hV⟩ : ∃ V, V = ((w.alloc (vo k n s)).alloc (vo k' n' s')).alloc (vo 0 0 ⟨#[]⟩) := ⟨_, rfl⟩
  have VA := hid (show VAt V w.heap.size k n s by rw [hV]; exact ((VAt.new w k n s _ rfl).below (below_alloc1 _ _)).below (below_alloc1 _ _))
  have VB := hid (show VAt V (w.heap.size + 1) k' n' s' by rw [hV]; exact (VAt.new _ k' n' s' _ (by simp)).below (below_alloc1 _ _))
  have VR := hid (show VAt V (w.heap.size + 1 + 1) 0 0 ⟨#[]⟩ by rw [hV]; exact VAt.new _ 0 0 _ _ (by simp))
  have HV := hid (show Below w.heap.size w V by rw [hV]; exact below_new (below_new (below_alloc1 w _) _) _)
  have HVE := hid hV; clear hV
  have hve := hid (vadd_eq k n s k' n' s')
  rcases hb : vboth k n s k' n' s' with _ | _
  all_goals
    have HBB := hid hb
    go_enter Tryd.func29, Tryd.ntmps29
    go_wp2_with fail
    rw [← HVE.out]
    refine (reckonA_any k n s k' n' s' V hs hs').mono ?_
    rw [hb]
    rintro e w1 ⟨⟨y1, y2, rfl⟩, hb1⟩
    have H1 := hid (below_new (below_then HV.out hb1) (vo y1 y2 ⟨#[]⟩))
    have VR1 := hid ((VR.out.below hb1).below (below_alloc1 _ (vo y1 y2 ⟨#[]⟩)))
    have VA1 := hid ((VA.out.below hb1).below (below_alloc1 _ (vo y1 y2 ⟨#[]⟩)))
    have VB1 := hid ((VB.out.below hb1).below (below_alloc1 _ (vo y1 y2 ⟨#[]⟩)))
    clear hb1 hb
    obtain ⟨W1, hW1⟩ : ∃ W1, W1 = w1.alloc (vo y1 y2 ⟨#[]⟩) := ⟨_, rfl⟩
    have f0 := VR1.out.fz 0; have f1 := VR1.out.fz 1; have f2 := VR1.out.fz 2
    have r0 := VR1.out.c0; have r1 := VR1.out.c1; have r2 := VR1.out.c2
    have hl := VR1.out.lt
    have hs1 := (VAt.new w1 y1 y2 ⟨#[]⟩ _ rfl).lt
    simp only [if_true, reduceCtorEq, if_false]
  · go_wp2_with fail
    (try simp only [Exit.inBlock, Exit.then]); refine bodyPost_ret (v := .tuple #[vv 0 0 ⟨#[]⟩, .int .i64 1]) (by simp [results, show Tryd.f29.results = #[.cell 4 49, .tmp 5] from rfl, go_sem, *]) rfl ?_
    refine ⟨by rw [hve.out, HBB.out]; rfl, ?_⟩
    repeat' first | exact H1.out | refine below_put ?_ _ _ _ (by omega)
  · obtain ⟨hk, hkk, hn, hn'⟩ := vboth_kind HBB.out
    have HK := hid hk; clear hk hkk
    have a0 := VA1.out.c0; have a1 := VA1.out.c1; have b1 := VB1.out.c1
    clear f0 f1 f2 r0 r1 r2
    go_wp2_with fail
    have VX := hid (VAt.new (w1.alloc (vo y1 y2 ⟨#[]⟩)) k (n + n') ⟨#[]⟩ (w1.heap.size + 1) (by simp))
    have H1' := hid (below_new H1.out (vo k (n + n') ⟨#[]⟩))
    have VR1' := hid (VR1.out.below (below_alloc1 _ (vo k (n + n') ⟨#[]⟩)))
    refine (VRight_any k (n + n') ⟨#[]⟩ _ (by decide)).mono ?_
    rcases hv : vright k (n + n') ⟨#[]⟩ with _ | _
    all_goals
      have HVV := hid hv
      rintro e w2 ⟨rfl, hb2⟩
      have H2 := hid (below_then H1'.out hb2)
      have VR2 := hid (VR1'.out.below hb2)
      have VX2 := hid (VX.out.below hb2)
      clear hb2 hv a0 a1 b1 hs1
      have f0 := VR2.out.fz 0; have f1 := VR2.out.fz 1; have f2 := VR2.out.fz 2
      have r0 := VR2.out.c0; have r1 := VR2.out.c1; have r2 := VR2.out.c2
      have x0 := VX2.out.c0; have x1 := VX2.out.c1; have x2 := VX2.out.c2
      have hl2 := VR2.out.lt
      go_wp2_with fail
    · (try simp only [Exit.inBlock, Exit.then]); refine bodyPost_ret (v := .tuple #[vv 0 0 ⟨#[]⟩, .int .i64 30]) (by simp [results, show Tryd.f29.results = #[.cell 4 49, .tmp 5] from rfl, go_sem, *]) rfl ?_
      refine ⟨by rw [hve.out, HBB.out, if_pos rfl, vanswer, HVV.out]; rfl, ?_⟩
      repeat' first | exact H2.out | refine below_put ?_ _ _ _ (by omega)
    · (try simp only [Exit.inBlock, Exit.then]); refine bodyPost_ret (v := .tuple #[vv k (n + n') ⟨#[]⟩, .int .i64 0]) (by simp [results, show Tryd.f29.results = #[.cell 4 49, .tmp 5] from rfl, go_sem, *]) rfl ?_
      refine ⟨by rw [hve.out, HBB.out, if_pos rfl, vanswer, HVV.out]; rfl, ?_⟩
      repeat' first | exact H2.out | refine below_put ?_ _ _ _ (by omega)
set_option maxRecDepth 100000 in
set_option maxHeartbeats 1000000 in
theorem ValueSums_walk (k n : Int) (s : ByteArray) (k' n' : Int) (s' : ByteArray) (w : World) (hs : s.size ≤ 9223372036854775807) (hs' : s'.size ≤ 9223372036854775807) :
    Calls Tryd.prog 8 #[vv k n s, vv k' n' s'] w fun e w' => e = .returned (.bool true) ∧ Below w.heap.size w w' := by
  have VA := hid ((VAt.new w k n s _ rfl).below (below_alloc1 _ (vo k' n' s')))
  have VB := hid (VAt.new (w.alloc (vo k n s)) k' n' s' (w.heap.size + 1) (by simp))
  have HV := hid (below_new (below_alloc1 w (vo k n s)) (vo k' n' s'))
  go_enter Tryd.func8, Tryd.ntmps8
  go_wp2_with fail
  refine (Add_any k n s k' n' s' _ hs hs').mono ?_
  rintro e w1 ⟨rfl, hb1⟩
  rcases hr : vadd k n s k' n' s' with ⟨⟨x1, x2⟩, x3⟩
  have H1 := hid (below_new (below_then HV.out hb1) (vo x1 x2 ⟨#[]⟩))
  have VA1 := hid ((VA.out.below hb1).below (below_alloc1 _ (vo x1 x2 ⟨#[]⟩)))
  have VB1 := hid ((VB.out.below hb1).below (below_alloc1 _ (vo x1 x2 ⟨#[]⟩)))
  have VX := hid (VAt.new w1 x1 x2 ⟨#[]⟩ _ rfl)
  clear hb1
  have a0 := VA1.out.c0; have a1 := VA1.out.c1; have a2 := VA1.out.c2
  have b0 := VB1.out.c0; have b1 := VB1.out.c1; have b2 := VB1.out.c2
  dsimp only
  go_wp2_with fail
  refine (rAdd_any k n s k' n' s' _ hs hs').mono ?_
  rw [hr]
  rintro e w2 ⟨rfl, hb⟩
  have H2 := hid (below_new (below_then H1.out hb) (vo x1 x2 ⟨#[]⟩))
  have VX2 := hid ((VX.out.below hb).below (below_alloc1 _ (vo x1 x2 ⟨#[]⟩)))
  have VY2 := hid (VAt.new w2 x1 x2 ⟨#[]⟩ _ rfl)
  clear hb a0 a1 a2 b0 b1 b2 hr
  have a0 := VX2.out.c0; have a1 := VX2.out.c1; have a2 := VX2.out.c2
  dsimp only
  go_wp2_with fail
  refine (num3_any x3 _).mono ?_
  rintro e w3 ⟨rfl, rfl⟩
  go_wp2_with fail
  refine (knows3_any _).mono ?_
  rintro e w3 ⟨rfl, hb⟩
  have H3 := hid (below_then H2.out hb)
  clear hb
  go_wp2_with fail
  go_ret
  exact ⟨rfl, H3.out⟩
theorem ValueSums_row (a : Array Value) (x : shValue.T) (b : Array Value) (y : shValue.T) (w : World) (ha : shValue.reads w a.toList x) (hb : shValue.reads w b.toList y) :
    Calls Tryd.prog 8 #[.agg a, .agg b] w fun e w' => e = .returned (.bool true) ∧ Below w.heap.size w w' := by
  rw [value_cut ha, value_cut hb]
  exact ValueSums_walk _ _ _ _ _ _ w (value_cells ha).2.2.2 (value_cells hb).2.2.2
set_option maxRecDepth 100000 in
set_option maxHeartbeats 1000000 in
theorem ValueOvers_walk (k n : Int) (s : ByteArray) (k' n' : Int) (s' : ByteArray) (w : World) (hs : s.size ≤ 9223372036854775807) (hs' : s'.size ≤ 9223372036854775807) :
    Calls Tryd.prog 9 #[vv k n s, vv k' n' s'] w fun e w' => e = .returned (.bool true) ∧ Below w.heap.size w w' := by
  have VA := hid ((VAt.new w k n s _ rfl).below (below_alloc1 _ (vo k' n' s')))
  have VB := hid (VAt.new (w.alloc (vo k n s)) k' n' s' (w.heap.size + 1) (by simp))
  have HV := hid (below_new (below_alloc1 w (vo k n s)) (vo k' n' s'))
  go_enter Tryd.func9, Tryd.ntmps9
  go_wp2_with fail
  refine (Over_any k n s k' n' s' _ hs hs').mono ?_
  rintro e w1 ⟨rfl, hb1⟩
  rcases hr : vover k n s k' n' s' with ⟨⟨x1, x2⟩, x3⟩
  have H1 := hid (below_new (below_then HV.out hb1) (vo x1 x2 ⟨#[]⟩))
  have VA1 := hid ((VA.out.below hb1).below (below_alloc1 _ (vo x1 x2 ⟨#[]⟩)))
  have VB1 := hid ((VB.out.below hb1).below (below_alloc1 _ (vo x1 x2 ⟨#[]⟩)))
  have VX := hid (VAt.new w1 x1 x2 ⟨#[]⟩ _ rfl)
  clear hb1
  have a0 := VA1.out.c0; have a1 := VA1.out.c1; have a2 := VA1.out.c2
  have b0 := VB1.out.c0; have b1 := VB1.out.c1; have b2 := VB1.out.c2
  dsimp only
  go_wp2_with fail
  refine (rOver_any k n s k' n' s' _ hs hs').mono ?_
  rw [hr]
  rintro e w2 ⟨rfl, hb⟩
  have H2 := hid (below_new (below_then H1.out hb) (vo x1 x2 ⟨#[]⟩))
  have VX2 := hid ((VX.out.below hb).below (below_alloc1 _ (vo x1 x2 ⟨#[]⟩)))
  have VY2 := hid (VAt.new w2 x1 x2 ⟨#[]⟩ _ rfl)
  clear hb a0 a1 a2 b0 b1 b2 hr
  have a0 := VX2.out.c0; have a1 := VX2.out.c1; have a2 := VX2.out.c2
  dsimp only
  go_wp2_with fail
  refine (num3_any x3 _).mono ?_
  rintro e w3 ⟨rfl, rfl⟩
  go_wp2_with fail
  refine (knows3_any _).mono ?_
  rintro e w3 ⟨rfl, hb⟩
  have H3 := hid (below_then H2.out hb)
  clear hb
  go_wp2_with fail
  go_ret
  exact ⟨rfl, H3.out⟩
theorem ValueOvers_row (a : Array Value) (x : shValue.T) (b : Array Value) (y : shValue.T) (w : World) (ha : shValue.reads w a.toList x) (hb : shValue.reads w b.toList y) :
    Calls Tryd.prog 9 #[.agg a, .agg b] w fun e w' => e = .returned (.bool true) ∧ Below w.heap.size w w' := by
  rw [value_cut ha, value_cut hb]
  exact ValueOvers_walk _ _ _ _ _ _ w (value_cells ha).2.2.2 (value_cells hb).2.2.2
end Go.Proofs.YtdbghnfmhgjkaaaDoor
/- VfW: ValueForms: what the walk leans on. -/
namespace Go.Dio
open Go.RowKit
/-- In the midst of a region that draws: from here on S' holds. -/
theorem wpAnyH_more {P : Program} {md : Region.Mode} {ops : Array Oper} {Q : Exit → Act → World → Prop} {S S' : World → Prop} (hSS : ∀ w, S' w → S w) :
    ∀ (fuel : Nat) (listed : Array Bool) (a : Act) (w : World), wpAnyH P md ops Q S' fuel listed a w → wpAnyH P md ops Q S fuel listed a w
  | 0, _, _, _, h => h
  | fuel + 1, _, _, _, h => ⟨h.1, fun i hi => wpOp_mono (fun a' w' h' => ⟨hSS _ h'.1, wpAnyH_more hSS fuel _ a' w' h'.2⟩) (h.2 i hi)⟩
end Go.Dio
