/- OpBack: an op that may be is read as it was written. -/
import Derived.Test.YtnakanophilfhaaDoorKn7
import Derived.Test.YtnakanophilfhaaDoorShO
namespace Go.Proofs.YtnakanophilfhaaDoor
open Go.RowKit Go.Dio
set_option linter.unusedVariables false
set_option linter.unusedSimpArgs false

set_option maxRecDepth 100000 in
set_option maxHeartbeats 4000000 in
theorem OpBack_walk (d : OpD) (A : Option Addr) (n c : Nat) (w : World) (h : OpIs w d A n c) (hg : RootsAt w) : Calls Tryd.prog 6 #[opv d A n c] w fun e w' => e = .returned (.bool true) ∧ Below w.heap.size w w' := by
  have HB := Below.refl w.heap.size w
  have RG := hg
  have D := h
  clear h hg
  refine frCall (args := [opv d A n c]) (N := 52) Tryd.func6 rfl rfl rfl (fun a0 F0 => ?_)
  refine wp_seq ?_
  refine kGo ?_
  refine kVal (v := ?v1) (w' := w.alloc (o7 d A n c)) F0 rfl rfl rfl rfl ?y1 (fun a1 F1 => ?h1)
  case y1 =>
    have e0 := F0.ev 0 rfl; have g0 := F0.get 0 _ rfl
    go_simp
    all_goals (first | with_reducible rfl | (constructor <;> first | with_reducible rfl | rfl) | skip)
  clear F0 a0
  refine kMove F1 rfl rfl rfl rfl rfl (fun a2 F2 => ?_)
  clear F1 a1
  have F3 := F2.sub (l' := [(1, .pointer (some ⟨w.heap.size, 0, none⟩))]) ⟨rfl, trivial⟩
  clear F2
  have hb := below_alloc1 w (o7 d A n c)
  have OX := O7At.new w d A n c _ rfl
  replace RG := RG.below hb
  replace D := D.below hb
  replace HB := below_then HB hb
  clear hb
  generalize w.alloc (o7 d A n c) = w1 at *
  refine kFin rfl ?_
  refine frNext ?_
  refine wp_seq ?_
  refine wp_seq ?_
  refine kGo ?_
  refine kTake (v := opv d A n c) F3 rfl rfl rfl rfl ?y4 (fun a4 F4 => ?h4)
  case y4 =>
    have q := OX.cs; have y0 := q.c0; have y1 := q.c1; have y2 := q.c2; have y3 := q.c3; have y4 := q.c4; have y5 := q.c5; have y6 := q.c6; have y7 := q.c7; have y8 := q.c8; have y9 := q.c9; have y10 := q.c10; have y11 := q.c11; clear q; have e1 := F3.ev 1 rfl; have g1 := F3.get 1 _ rfl
    go_simp; try with_reducible rfl
  clear F3 a2
  refine kCall F4 rfl rfl rfl rfl (long7_any d A n c _ D.st.len D.key D.vt) ?y5 ?h5
  case y5 =>
    have e7 := F4.ev 7 rfl; have g7 := F4.get 7 _ rfl
    go_simp; try with_reducible rfl
  rintro e w2 ⟨rfl, hb⟩
  replace RG := RG.below hb
  replace D := D.below hb
  replace OX := OX.below hb
  replace HB := below_then HB hb
  clear hb
  refine ⟨_, rfl, fun a5 F5 => ?_⟩
  clear F4 a4
  have F6 := F5.sub (l' := [(1, .pointer (some ⟨w.heap.size, 0, none⟩)), (8, .bool (olong d))]) ⟨rfl, rfl, trivial⟩
  clear F5
  refine kFin rfl ?_
  refine frNext ?_
  rcases hL : olong d with _ | _
  rotate_left
  · skip
    rw [hL] at F6
    refine frCond (b := true) F6 rfl ?_
    simp only [if_true]
    refine wp_seq ?_
    refine kGo ?_
    refine kCall F6 rfl rfl rfl rfl (knows7_any _ RG) ?y7 ?h7
    case y7 =>
      skip
      go_simp; try with_reducible rfl
    rintro e wN ⟨rfl, hb⟩
    replace RG := RG.below hb
    replace D := D.below hb
    replace OX := OX.below hb
    replace HB := below_then HB hb
    clear hb
    refine ⟨_, rfl, fun a7 F7 => ?_⟩
    clear F6 a5
    refine kMove F7 rfl rfl rfl rfl rfl (fun a8 F8 => ?_)
    clear F7 a7
    refine kFin rfl ?_
    refine frNext ?_
    refine wp_ret ?_
    refine frThenRet ?_
    exact frRet1 rfl F8 rfl ⟨rfl, HB⟩
  rw [hL] at F6
  refine frCond (b := false) F6 rfl ?_
  simp only [Bool.false_eq_true, if_false]
  refine wp_skip ?_
  refine frNext ?_
  refine wp_seq ?_
  have hn5 : n ≤ 500 := by
    have := D.st.len
    simp [olong] at hL
    omega
  clear hL
  have F9 := F6.sub (l' := [(1, .pointer (some ⟨w.heap.size, 0, none⟩))]) ⟨rfl, trivial⟩
  clear F6
  refine kGo ?_
  refine kTake (v := opv d A n c) F9 rfl rfl rfl rfl ?y10 (fun a10 F10 => ?h10)
  case y10 =>
    have q := OX.cs; have y0 := q.c0; have y1 := q.c1; have y2 := q.c2; have y3 := q.c3; have y4 := q.c4; have y5 := q.c5; have y6 := q.c6; have y7 := q.c7; have y8 := q.c8; have y9 := q.c9; have y10 := q.c10; have y11 := q.c11; clear q; have e1 := F9.ev 1 rfl; have g1 := F9.get 1 _ rfl
    go_simp; try with_reducible rfl
  clear F9 a5
  refine kCall F10 rfl rfl rfl rfl (Own7_d d A n c _ D hn5) ?y11 ?h11
  case y11 =>
    have e11 := F10.ev 11 rfl; have g11 := F10.get 11 _ rfl
    go_simp; try with_reducible rfl
  rintro e w3 ⟨⟨A1, c1, rfl, D1⟩, hb⟩
  replace RG := RG.below hb
  replace D := D.below hb
  replace OX := OX.below hb
  replace HB := below_then HB hb
  clear hb
  refine ⟨_, rfl, fun a11 F11 => ?_⟩
  clear F10 a10
  rcases hR : oright d with _ | _
  · skip
    refine kCall F11 rfl rfl rfl rfl (OPut_d d A1 n c1 _ D1 RG) ?y12 ?h12
    case y12 =>
      have e12 := F11.ev 12 rfl; have g12 := F11.get 12 _ rfl
      go_simp; try with_reducible rfl
    rintro e w4 ⟨-, hno⟩
    obtain ⟨rfl, hb⟩ := hno hR
    clear hno D1
    replace RG := RG.below hb
    replace D := D.below hb
    replace OX := OX.below hb
    replace HB := below_then HB hb
    clear hb
    refine ⟨_, rfl, fun a12 F12 => ?_⟩
    clear F11 a11
    refine kMove F12 rfl rfl rfl rfl rfl (fun a13 F13 => ?_)
    clear F12 a12
    refine kMove F13 rfl rfl rfl rfl rfl (fun a14 F14 => ?_)
    clear F13 a13
    refine kMove F14 rfl rfl rfl rfl rfl (fun a15 F15 => ?_)
    clear F14 a14
    refine kMove F15 rfl rfl rfl rfl rfl (fun a16 F16 => ?_)
    clear F15 a15
    refine kMove F16 rfl rfl rfl rfl rfl (fun a17 F17 => ?_)
    clear F16 a16
    have F18 := F17.sub (l' := [(1, .pointer (some ⟨w.heap.size, 0, none⟩)), (3, .slice none 0 0), (4, .int .i64 1)]) ⟨rfl, rfl, rfl, trivial⟩
    clear F17
    refine kFin rfl ?_
    refine frNext ?_
    refine wp_seq ?_
    refine wp_seq ?_
    refine kGo ?_
    refine kMove F18 rfl rfl rfl rfl rfl (fun a19 F19 => ?_)
    clear F18 a17
    refine kCall F19 rfl rfl rfl rfl (num7_any 1 _) ?y20 ?h20
    case y20 =>
      have e16 := F19.ev 16 rfl; have g16 := F19.get 16 _ rfl
      go_simp; try with_reducible rfl
    rintro e wN ⟨rfl, rfl⟩
    refine ⟨_, rfl, fun a20 F20 => ?_⟩
    clear F19 a19
    refine kTake (v := .bool true) F20 rfl rfl rfl rfl ?y21 (fun a21 F21 => ?h21)
    case y21 =>
      have e17 := F20.ev 17 rfl; have g17 := F20.get 17 _ rfl
      go_simp; try with_reducible rfl
    clear F20 a20
    refine kFin rfl ?_
    refine frNext ?_
    refine frCond (b := true) F21 rfl ?_
    simp only [if_true]
    refine wp_seq ?_
    refine kGo ?_
    refine kTake (v := opv d A n c) F21 rfl rfl rfl rfl ?y22 (fun a22 F22 => ?h22)
    case y22 =>
      have q := OX.cs; have y0 := q.c0; have y1 := q.c1; have y2 := q.c2; have y3 := q.c3; have y4 := q.c4; have y5 := q.c5; have y6 := q.c6; have y7 := q.c7; have y8 := q.c8; have y9 := q.c9; have y10 := q.c10; have y11 := q.c11; clear q; have e1 := F21.ev 1 rfl; have g1 := F21.get 1 _ rfl
      go_simp; try with_reducible rfl
    clear F21 a21
    refine kCall F22 rfl rfl rfl rfl (Own7_d d A n c _ D hn5) ?y23 ?h23
    case y23 =>
      have e19 := F22.ev 19 rfl; have g19 := F22.get 19 _ rfl
      go_simp; try with_reducible rfl
    rintro e w5 ⟨⟨A2, c2, rfl, D2⟩, hb⟩
    replace RG := RG.below hb
    replace D := D.below hb
    replace OX := OX.below hb
    replace HB := below_then HB hb
    clear hb
    refine ⟨_, rfl, fun a23 F23 => ?_⟩
    clear F22 a22
    refine kCall F23 rfl rfl rfl rfl (ORight_d d A2 n c2 _ D2 RG) ?y24 ?h24
    case y24 =>
      have e20 := F23.ev 20 rfl; have g20 := F23.get 20 _ rfl
      go_simp; try with_reducible rfl
    rw [hR]
    rintro e w6 ⟨rfl, hb⟩
    clear D2
    replace RG := RG.below hb
    replace D := D.below hb
    replace OX := OX.below hb
    replace HB := below_then HB hb
    clear hb
    refine ⟨_, rfl, fun a24 F24 => ?_⟩
    clear F23 a23
    refine kMove F24 rfl rfl rfl rfl rfl (fun a25 F25 => ?_)
    clear F24 a24
    refine kMove F25 rfl rfl rfl rfl rfl (fun a26 F26 => ?_)
    clear F25 a25
    refine kMove F26 rfl rfl rfl rfl rfl (fun a27 F27 => ?_)
    clear F26 a26
    refine kTake (v := ?v28) F27 rfl rfl rfl rfl ?y28 (fun a28 F28 => ?h28)
    case y28 =>
      have e24 := F27.ev 24 rfl; have g24 := F27.get 24 _ rfl
      go_simp; try with_reducible rfl
    clear F27 a27
    refine kTake (v := .bool true) F28 rfl rfl rfl rfl ?y29 (fun a29 F29 => ?h29)
    case y29 =>
      have e25 := F28.ev 25 rfl; have g25 := F28.get 25 _ rfl
      go_simp; try with_reducible rfl
    clear F28 a28
    refine kMove F29 rfl rfl rfl rfl rfl (fun a30 F30 => ?_)
    clear F29 a29
    refine kMove F30 rfl rfl rfl rfl rfl (fun a31 F31 => ?_)
    clear F30 a30
    refine kCall F31 rfl rfl rfl rfl (knows7_any _ RG) ?y32 ?h32
    case y32 =>
      skip
      go_simp; try with_reducible rfl
    rintro e wN ⟨rfl, hb⟩
    replace RG := RG.below hb
    replace D := D.below hb
    replace OX := OX.below hb
    replace HB := below_then HB hb
    clear hb
    refine ⟨_, rfl, fun a32 F32 => ?_⟩
    clear F31 a31
    refine kMove F32 rfl rfl rfl rfl rfl (fun a33 F33 => ?_)
    clear F32 a32
    refine kMove F33 rfl rfl rfl rfl rfl (fun a34 F34 => ?_)
    clear F33 a33
    refine kFin rfl ?_
    refine frNext ?_
    refine wp_ret ?_
    refine frThenRet ?_
    exact frRet1 rfl F34 rfl ⟨rfl, HB⟩
  · skip
    refine kCall F11 rfl rfl rfl rfl (OPut_d d A1 n c1 _ D1 RG) ?y35 ?h35
    case y35 =>
      have e12 := F11.ev 12 rfl; have g12 := F11.get 12 _ rfl
      go_simp; try with_reducible rfl
    rintro e w4 ⟨hok, -⟩
    obtain ⟨v1, rfl, ho, hb⟩ := hok hR
    clear hok D1
    obtain ⟨Ab, nb, cb, rfl, hB, -⟩ := ho.form
    clear ho
    have hBl := hB.len
    replace RG := RG.below hb
    replace D := D.below hb
    replace OX := OX.below hb
    replace HB := below_then HB hb
    clear hb
    refine ⟨_, rfl, fun a35 F35 => ?_⟩
    clear F11 a11
    refine kMove F35 rfl rfl rfl rfl rfl (fun a36 F36 => ?_)
    clear F35 a35
    refine kMove F36 rfl rfl rfl rfl rfl (fun a37 F37 => ?_)
    clear F36 a36
    refine kMove F37 rfl rfl rfl rfl rfl (fun a38 F38 => ?_)
    clear F37 a37
    refine kMove F38 rfl rfl rfl rfl rfl (fun a39 F39 => ?_)
    clear F38 a38
    refine kMove F39 rfl rfl rfl rfl rfl (fun a40 F40 => ?_)
    clear F39 a39
    have F41 := F40.sub (l' := [(1, .pointer (some ⟨w.heap.size, 0, none⟩)), (3, .slice Ab nb cb), (4, .int .i64 0)]) ⟨rfl, rfl, rfl, trivial⟩
    clear F40
    refine kFin rfl ?_
    refine frNext ?_
    refine wp_seq ?_
    refine wp_seq ?_
    refine kGo ?_
    refine kMove F41 rfl rfl rfl rfl rfl (fun a42 F42 => ?_)
    clear F41 a40
    refine kCall F42 rfl rfl rfl rfl (num7_any 0 _) ?y43 ?h43
    case y43 =>
      have e16 := F42.ev 16 rfl; have g16 := F42.get 16 _ rfl
      go_simp; try with_reducible rfl
    rintro e wN ⟨rfl, rfl⟩
    refine ⟨_, rfl, fun a43 F43 => ?_⟩
    clear F42 a42
    refine kTake (v := .bool false) F43 rfl rfl rfl rfl ?y44 (fun a44 F44 => ?h44)
    case y44 =>
      have e17 := F43.ev 17 rfl; have g17 := F43.get 17 _ rfl
      go_simp; try with_reducible rfl
    clear F43 a43
    refine kFin rfl ?_
    refine frNext ?_
    refine frCond (b := false) F44 rfl ?_
    simp only [Bool.false_eq_true, if_false]
    refine wp_skip ?_
    refine frNext ?_
    refine wp_seq ?_
    have F45 := F44.sub (l' := [(1, .pointer (some ⟨w.heap.size, 0, none⟩)), (3, .slice Ab nb cb)]) ⟨rfl, rfl, trivial⟩
    clear F44
    have hrd : tOp (opB d, 0) = (d, ([], 0)) := by
      have := tOp_opB d [] hR
      rwa [List.append_nil] at this
    have hol := opB_le hR
    refine kGo ?_
    refine kMove F45 rfl rfl rfl rfl rfl (fun a46 F46 => ?_)
    clear F45 a44
    refine kCall F46 rfl rfl rfl rfl (Open_any Ab nb cb _ _ hB (by omega)) ?y47 ?h47
    case y47 =>
      have e31 := F46.ev 31 rfl; have g31 := F46.get 31 _ rfl
      go_simp; try with_reducible rfl
    rintro e w5 ⟨rb, rfl, hR5, hbO⟩
    refine ⟨_, rfl, fun a47 F47 => ?_⟩
    clear F46 a46
    refine kMove F47 rfl rfl rfl rfl rfl (fun a48 F48 => ?_)
    clear F47 a47
    have F49 := F48.sub (l' := [(1, .pointer (some ⟨w.heap.size, 0, none⟩)), (5, .pointer (some ⟨rb, 0, none⟩))]) ⟨rfl, rfl, trivial⟩
    clear F48
    refine kFin rfl ?_
    refine frNext ?_
    refine wp_seq ?_
    refine kGo ?_
    refine kMove F49 rfl rfl rfl rfl rfl (fun a50 F50 => ?_)
    clear F49 a48
    have hc := OTake_d w4.heap.size rb (opB d, 0) _ hR5 (RG.below hbO) RG.two (by rw [hrd]; exact ⟨D.key, D.vt⟩)
    rw [hrd] at hc
    dsimp only at hc
    refine kCall F50 rfl rfl rfl rfl (hc) ?y51 ?h51
    case y51 =>
      have e33 := F50.ev 33 rfl; have g33 := F50.get 33 _ rfl
      go_simp; try with_reducible rfl
    rintro e w6 ⟨Ay, ny, cy, rfl, DY, hYa, hR6, hg⟩
    have hb := hbO.grown hg hbO.size (fun q hq => by cases hq; exact hR5.lo)
    clear hg hbO hR5 hYa
    replace RG := RG.below hb
    replace D := D.below hb
    replace OX := OX.below hb
    replace hB := hB.below hb
    replace HB := below_then HB hb
    clear hb
    refine ⟨_, rfl, fun a51 F51 => ?_⟩
    clear F50 a50
    refine kVal (v := ?v52) (w' := w6.alloc (oo ⟨0, 0, 0, 0, 0, ⟨#[]⟩, [], 0, 0, 0, ⟨#[]⟩, false⟩ none 0 0)) F51 rfl rfl rfl rfl ?y52 (fun a52 F52 => ?h52)
    case y52 =>
      skip
      go_simp
      all_goals (first | with_reducible rfl | (constructor <;> first | with_reducible rfl | rfl) | skip)
    clear F51 a51
    refine kStore (w' := w6.alloc (oo d Ay ny cy)) F52 rfl rfl rfl ?y53 (fun a53 F53 => ?h53)
    case y53 =>
      have e6 := F52.ev 6 rfl; have g6 := F52.get 6 _ rfl; have e34 := F52.ev 34 rfl; have g34 := F52.get 34 _ rfl
      go_simp; try with_reducible rfl
    clear F52 a52
    have F54 := F53.sub (l' := [(1, .pointer (some ⟨w.heap.size, 0, none⟩)), (5, .pointer (some ⟨rb, 0, none⟩)), (6, .pointer (some ⟨w6.heap.size, 0, none⟩))]) ⟨rfl, rfl, rfl, trivial⟩
    clear F53
    have hb := below_alloc1 w6 (oo d Ay ny cy)
    have OY := OAt.new w6 d Ay ny cy _ rfl
    replace RG := RG.below hb
    replace D := D.below hb
    replace OX := OX.below hb
    replace hB := hB.below hb
    replace DY := DY.below hb
    replace hR6 := hR6.below hb
    replace HB := below_then HB hb
    clear hb
    generalize w6.alloc (oo d Ay ny cy) = w7 at *
    refine kFin rfl ?_
    refine frNext ?_
    refine wp_seq ?_
    have HB7 := HB.drew
    have OX7 := OX
    have OY7 := OY
    replace HB := HB7
    clear HB7
    have hS : Below w7.heap.size w7 w7.drew := (Below.refl _ w7).drew
    refine sGo (n := 18) (fun w' => Below w7.heap.size w7 w') rfl (by kernel_rfl) (hS) ?_
    replace RG := RG.below hS
    replace D := D.below hS
    replace OX := OX.below hS
    replace hB := hB.below hS
    replace DY := DY.below hS
    replace hR6 := hR6.below hS
    replace OY := OY.below hS
    refine sFree 0 (v := opv d Ay ny cy) F54 rfl rfl rfl rfl (by kernel_rfl) (by kernel_rfl) (by kernel_rfl) (fun _ d _ _ _ h => by cases d <;> exact h) hS ?y55 (fun a55 F55 => ?h55)
    case y55 =>
      intro wS hSw; have q := (OY7.below hSw).cs; have y0 := q.c0; have y1 := q.c1; have y2 := q.c2; have y3 := q.c3; have y4 := q.c4; have y5 := q.c5; have y6 := q.c6; have y7 := q.c7; have y8 := q.c8; have y9 := q.c9; have y10 := q.c10; have y11 := q.c11; clear q; have e6 := F54.ev 6 rfl; have g6 := F54.get 6 _ rfl
      go_simp; try with_reducible rfl
    clear F54 a53
    refine sFree 1 (v := opv d A n c) F55 rfl rfl rfl rfl (by kernel_rfl) (by kernel_rfl) (by kernel_rfl) (fun _ d _ _ _ h => by cases d <;> exact h) hS ?y56 (fun a56 F56 => ?h56)
    case y56 =>
      intro wS hSw; have q := (OX7.below hSw).cs; have y0 := q.c0; have y1 := q.c1; have y2 := q.c2; have y3 := q.c3; have y4 := q.c4; have y5 := q.c5; have y6 := q.c6; have y7 := q.c7; have y8 := q.c8; have y9 := q.c9; have y10 := q.c10; have y11 := q.c11; clear q; have e1 := F55.ev 1 rfl; have g1 := F55.get 1 _ rfl
      go_simp; try with_reducible rfl
    clear F55 a55
    refine sSolo 2 F56 rfl (by kernel_rfl) rfl (o1Call F56 rfl rfl (Own7_d d A n c _ D hn5) ?y57 ?h57)
    case y57 =>
      have e36 := F56.ev 36 rfl; have g36 := F56.get 36 _ rfl
      go_simp; try with_reducible rfl
    rintro e w8 ⟨⟨A2, c2, rfl, D2⟩, hb⟩
    replace RG := RG.below hb
    replace D := D.below hb
    replace OX := OX.below hb
    replace hB := hB.below hb
    replace DY := DY.below hb
    replace hR6 := hR6.below hb
    replace OY := OY.below hb
    replace HB := below_then HB hb
    replace hS := below_then hS hb
    clear hb
    refine ⟨_, rfl, fun a57 F57 => ⟨hS, ?_⟩⟩
    clear F56 a56
    refine sSolo 3 F57 rfl (by kernel_rfl) rfl (o1Call F57 rfl rfl (OSame_d d d Ay ny cy A2 n c2 _ DY D2) ?y58 ?h58)
    case y58 =>
      have e35 := F57.ev 35 rfl; have g35 := F57.get 35 _ rfl; have e37 := F57.ev 37 rfl; have g37 := F57.get 37 _ rfl
      go_simp; try with_reducible rfl
    rw [osame_refl]
    rintro e w9 ⟨rfl, hb⟩
    clear D2
    replace RG := RG.below hb
    replace D := D.below hb
    replace OX := OX.below hb
    replace hB := hB.below hb
    replace DY := DY.below hb
    replace hR6 := hR6.below hb
    replace OY := OY.below hb
    replace HB := below_then HB hb
    replace hS := below_then hS hb
    clear hb
    refine ⟨_, rfl, fun a58 F58 => ⟨hS, ?_⟩⟩
    clear F57 a57
    refine sMove 4 F58 rfl rfl rfl rfl (by kernel_rfl) (by kernel_rfl) (by kernel_rfl) (fun _ d _ _ _ h => by cases d <;> exact h) hS rfl (fun a59 F59 => ?_)
    clear F58 a58
    refine sMove 5 F59 rfl rfl rfl rfl (by kernel_rfl) (by kernel_rfl) (by kernel_rfl) (fun _ d _ _ _ h => by cases d <;> exact h) hS rfl (fun a60 F60 => ?_)
    clear F59 a59
    refine sSolo 6 F60 rfl (by kernel_rfl) rfl (o1Call F60 rfl rfl (Done_r _ rb ([], 0) _ hR6) ?y61 ?h61)
    case y61 =>
      have e40 := F60.ev 40 rfl; have g40 := F60.get 40 _ rfl
      go_simp; try with_reducible rfl
    rintro e wN ⟨rfl, rfl⟩
    refine ⟨_, rfl, fun a61 F61 => ⟨hS, ?_⟩⟩
    clear F60 a60
    refine sSolo 7 F61 rfl (by kernel_rfl) rfl (o1Call F61 rfl rfl (num7_any (rDone ([], 0)) _) ?y62 ?h62)
    case y62 =>
      have e41 := F61.ev 41 rfl; have g41 := F61.get 41 _ rfl
      go_simp; try with_reducible rfl
    rintro e wN ⟨rfl, rfl⟩
    refine ⟨_, rfl, fun a62 F62 => ⟨hS, ?_⟩⟩
    clear F61 a61
    refine sFree 8 (v := .bool true) F62 rfl rfl rfl rfl (by kernel_rfl) (by kernel_rfl) (by kernel_rfl) (fun _ d _ _ _ h => by cases d <;> exact h) hS ?y63 (fun a63 F63 => ?h63)
    case y63 =>
      intro wS hSw; have e42 := F62.ev 42 rfl; have g42 := F62.get 42 _ rfl
      go_simp; try rfl
    clear F62 a62
    refine sMove 9 F63 rfl rfl rfl rfl (by kernel_rfl) (by kernel_rfl) (by kernel_rfl) (fun _ d _ _ _ h => by cases d <;> exact h) hS rfl (fun a64 F64 => ?_)
    clear F63 a63
    refine sMove 10 F64 rfl rfl rfl rfl (by kernel_rfl) (by kernel_rfl) (by kernel_rfl) (fun _ d _ _ _ h => by cases d <;> exact h) hS rfl (fun a65 F65 => ?_)
    clear F64 a64
    refine sFree 11 (v := opv d Ay ny cy) F65 rfl rfl rfl rfl (by kernel_rfl) (by kernel_rfl) (by kernel_rfl) (fun _ d _ _ _ h => by cases d <;> exact h) hS ?y66 (fun a66 F66 => ?h66)
    case y66 =>
      intro wS hSw; have q := (OY7.below hSw).cs; have y0 := q.c0; have y1 := q.c1; have y2 := q.c2; have y3 := q.c3; have y4 := q.c4; have y5 := q.c5; have y6 := q.c6; have y7 := q.c7; have y8 := q.c8; have y9 := q.c9; have y10 := q.c10; have y11 := q.c11; clear q; have e6 := F65.ev 6 rfl; have g6 := F65.get 6 _ rfl
      go_simp; try with_reducible rfl
    clear F65 a65
    refine sSolo 12 F66 rfl (by kernel_rfl) rfl (o1Call F66 rfl rfl (ORight_d d Ay ny cy _ DY RG) ?y67 ?h67)
    case y67 =>
      have e46 := F66.ev 46 rfl; have g46 := F66.get 46 _ rfl
      go_simp; try with_reducible rfl
    rw [hR]
    rintro e w10 ⟨rfl, hb⟩
    replace RG := RG.below hb
    replace D := D.below hb
    replace OX := OX.below hb
    replace hB := hB.below hb
    replace DY := DY.below hb
    replace hR6 := hR6.below hb
    replace OY := OY.below hb
    replace HB := below_then HB hb
    replace hS := below_then hS hb
    clear hb
    refine ⟨_, rfl, fun a67 F67 => ⟨hS, ?_⟩⟩
    clear F66 a66
    refine sMove 13 F67 rfl rfl rfl rfl (by kernel_rfl) (by kernel_rfl) (by kernel_rfl) (fun _ d _ _ _ h => by cases d <;> exact h) hS rfl (fun a68 F68 => ?_)
    clear F67 a67
    refine sMove 14 F68 rfl rfl rfl rfl (by kernel_rfl) (by kernel_rfl) (by kernel_rfl) (fun _ d _ _ _ h => by cases d <;> exact h) hS rfl (fun a69 F69 => ?_)
    clear F68 a68
    refine sSolo 15 F69 rfl (by kernel_rfl) rfl (o1Call F69 rfl rfl (knows7_any _ RG) ?y70 ?h70)
    case y70 =>
      skip
      go_simp; try with_reducible rfl
    rintro e w11 ⟨rfl, hb⟩
    replace RG := RG.below hb
    replace D := D.below hb
    replace OX := OX.below hb
    replace hB := hB.below hb
    replace DY := DY.below hb
    replace hR6 := hR6.below hb
    replace OY := OY.below hb
    replace HB := below_then HB hb
    replace hS := below_then hS hb
    clear hb
    refine ⟨_, rfl, fun a70 F70 => ⟨hS, ?_⟩⟩
    clear F69 a69
    refine sMove 16 F70 rfl rfl rfl rfl (by kernel_rfl) (by kernel_rfl) (by kernel_rfl) (fun _ d _ _ _ h => by cases d <;> exact h) hS rfl (fun a71 F71 => ?_)
    clear F70 a70
    refine sMove 17 F71 rfl rfl rfl rfl (by kernel_rfl) (by kernel_rfl) (by kernel_rfl) (fun _ d _ _ _ h => by cases d <;> exact h) hS rfl (fun a72 F72 => ?_)
    clear F71 a71
    refine sFin (by kernel_rfl) ?_
    refine frNext ?_
    refine wp_ret ?_
    exact frRet1 rfl F72 rfl ⟨rfl, HB⟩
theorem OpBack_row (a : Array Value) (x : shOp.T) (w : World) (h : shOp.reads w a.toList x) (hg : RootsAt w) :
    Calls Tryd.prog 6 #[.agg a] w fun e w' => e = .returned (.bool true) ∧ Below w.heap.size w w' := by
  obtain ⟨d, A, n, c, rfl, h1⟩ := op_cut h
  exact OpBack_walk d A n c w h1 hg

end Go.Proofs.YtnakanophilfhaaDoor
