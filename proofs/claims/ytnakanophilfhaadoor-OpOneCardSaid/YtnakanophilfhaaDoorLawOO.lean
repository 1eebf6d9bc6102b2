/- OpOne: two ops that may be have the same bytes just if they are the same. -/
import Derived.Test.YtnakanophilfhaaDoorLawOB
namespace Go.Proofs.YtnakanophilfhaaDoor
open Go.RowKit Go.Dio
set_option linter.unusedVariables false
set_option linter.unusedSimpArgs false

set_option maxRecDepth 100000 in
set_option maxHeartbeats 4000000 in
theorem OpOne_walk (d : OpD) (A : Option Addr) (n c : Nat) (d' : OpD) (A' : Option Addr) (n' c' : Nat) (w : World) (h : OpIs w d A n c) (h' : OpIs w d' A' n' c') (hg : RootsAt w) : Calls Tryd.prog 3 #[opv d A n c, opv d' A' n' c'] w fun e w' => e = .returned (.bool true) ∧ Below w.heap.size w w' := by
  have HB := Below.refl w.heap.size w
  have RG := hg
  have D := h
  have E := h'
  clear h hg h'
  refine frCall (args := [opv d A n c, opv d' A' n' c']) (N := 51) Tryd.func3 rfl rfl rfl (fun a0 F0 => ?_)
  refine wp_seq ?_
  refine kGo ?_
  refine kVal (v := ?v1) (w' := w.alloc (o7 d A n c)) F0 rfl rfl rfl rfl ?y1 (fun a1 F1 => ?h1)
  case y1 =>
    have e0 := F0.ev 0 rfl; have g0 := F0.get 0 _ rfl
    go_simp
    all_goals (first | with_reducible rfl | (constructor <;> first | with_reducible rfl | rfl) | skip)
  clear F0 a0
  have hb := below_alloc1 w (o7 d A n c)
  have OX := O7At.new w d A n c _ rfl
  have hsz : (w.alloc (o7 d A n c)).heap.size = w.heap.size + 1 := by simp
  replace RG := RG.below hb
  replace D := D.below hb
  replace E := E.below hb
  replace HB := below_then HB hb
  clear hb
  generalize w.alloc (o7 d A n c) = w1 at *
  refine kVal (v := ?v2) (w' := w1.alloc (o7 d' A' n' c')) F1 rfl rfl rfl rfl ?y2 (fun a2 F2 => ?h2)
  case y2 =>
    have e1 := F1.ev 1 rfl; have g1 := F1.get 1 _ rfl
    go_simp
    all_goals (first | with_reducible rfl | (constructor <;> first | with_reducible rfl | rfl) | skip)
  clear F1 a1
  refine kMove F2 rfl rfl rfl rfl rfl (fun a3 F3 => ?_)
  clear F2 a2
  have F4 := F3.sub (l' := [(2, .pointer (some ⟨w.heap.size, 0, none⟩)), (3, .pointer (some ⟨w.heap.size + 1, 0, none⟩))]) ⟨rfl, rfl, trivial⟩
  clear F3
  have hb := below_alloc1 w1 (o7 d' A' n' c')
  have OY := O7At.new w1 d' A' n' c' _ rfl
  replace RG := RG.below hb
  replace D := D.below hb
  replace E := E.below hb
  replace OX := OX.below hb
  replace HB := below_then HB hb
  clear hb
  generalize w1.alloc (o7 d' A' n' c') = w2 at *
  rw [hsz] at OY
  clear hsz
  refine kFin rfl ?_
  refine frNext ?_
  refine wp_seq ?_
  refine wp_seq ?_
  refine kGo ?_
  refine kTake (v := opv d A n c) F4 rfl rfl rfl rfl ?y5 (fun a5 F5 => ?h5)
  case y5 =>
    have q := OX.cs; have y0 := q.c0; have y1 := q.c1; have y2 := q.c2; have y3 := q.c3; have y4 := q.c4; have y5 := q.c5; have y6 := q.c6; have y7 := q.c7; have y8 := q.c8; have y9 := q.c9; have y10 := q.c10; have y11 := q.c11; clear q; have e2 := F4.ev 2 rfl; have g2 := F4.get 2 _ rfl
    go_simp; try with_reducible rfl
  clear F4 a3
  refine kCall F5 rfl rfl rfl rfl (long7_any d A n c _ D.st.len D.key D.vt) ?y6 ?h6
  case y6 =>
    have e9 := F5.ev 9 rfl; have g9 := F5.get 9 _ rfl
    go_simp; try with_reducible rfl
  rintro e wN ⟨rfl, hb⟩
  replace RG := RG.below hb
  replace D := D.below hb
  replace E := E.below hb
  replace OX := OX.below hb
  replace OY := OY.below hb
  replace HB := below_then HB hb
  clear hb
  refine ⟨_, rfl, fun a6 F6 => ?_⟩
  clear F5 a5
  refine kMove F6 rfl rfl rfl rfl rfl (fun a7 F7 => ?_)
  clear F6 a6
  rcases hL : olong d with _ | _
  rotate_left
  · skip
    rw [hL] at F7
    refine kNot F7 rfl rfl rfl rfl (fun a8 F8 => ?_)
    clear F7 a7
    refine kNot F8 rfl rfl rfl rfl (fun a9 F9 => ?_)
    clear F8 a8
    refine kMove F9 rfl rfl rfl rfl rfl (fun a10 F10 => ?_)
    clear F9 a9
    refine kFin rfl ?_
    refine frNext ?_
    refine frCond (b := true) F10 rfl ?_
    simp only [if_true]
    refine wp_seq ?_
    refine kGo ?_
    refine kCall F10 rfl rfl rfl rfl (knows7_any _ RG) ?y11 ?h11
    case y11 =>
      skip
      go_simp; try with_reducible rfl
    rintro e wN ⟨rfl, hb⟩
    replace RG := RG.below hb
    replace D := D.below hb
    replace E := E.below hb
    replace OX := OX.below hb
    replace OY := OY.below hb
    replace HB := below_then HB hb
    clear hb
    refine ⟨_, rfl, fun a11 F11 => ?_⟩
    clear F10 a10
    refine kMove F11 rfl rfl rfl rfl rfl (fun a12 F12 => ?_)
    clear F11 a11
    refine kFin rfl ?_
    refine frNext ?_
    refine wp_ret ?_
    refine frThenRet ?_
    exact frRet1 rfl F12 rfl ⟨rfl, HB⟩
  rw [hL] at F7
  refine kTake (v := opv d' A' n' c') F7 rfl rfl rfl rfl ?y13 (fun a13 F13 => ?h13)
  case y13 =>
    have q := OY.cs; have y0 := q.c0; have y1 := q.c1; have y2 := q.c2; have y3 := q.c3; have y4 := q.c4; have y5 := q.c5; have y6 := q.c6; have y7 := q.c7; have y8 := q.c8; have y9 := q.c9; have y10 := q.c10; have y11 := q.c11; clear q; have e3 := F7.ev 3 rfl; have g3 := F7.get 3 _ rfl
    go_simp; try with_reducible rfl
  clear F7 a7
  refine kCall F13 rfl rfl rfl rfl (long7_any d' A' n' c' _ E.st.len E.key E.vt) ?y14 ?h14
  case y14 =>
    have e12 := F13.ev 12 rfl; have g12 := F13.get 12 _ rfl
    go_simp; try with_reducible rfl
  rintro e wN ⟨rfl, hb⟩
  replace RG := RG.below hb
  replace D := D.below hb
  replace E := E.below hb
  replace OX := OX.below hb
  replace OY := OY.below hb
  replace HB := below_then HB hb
  clear hb
  refine ⟨_, rfl, fun a14 F14 => ?_⟩
  clear F13 a13
  rcases hL' : olong d' with _ | _
  rotate_left
  · skip
    rw [hL'] at F14
    refine kMove F14 rfl rfl rfl rfl rfl (fun a15 F15 => ?_)
    clear F14 a14
    refine kFin rfl ?_
    refine frNext ?_
    refine frCond (b := true) F15 rfl ?_
    simp only [if_true]
    refine wp_seq ?_
    refine kGo ?_
    refine kCall F15 rfl rfl rfl rfl (knows7_any _ RG) ?y16 ?h16
    case y16 =>
      skip
      go_simp; try with_reducible rfl
    rintro e wN ⟨rfl, hb⟩
    replace RG := RG.below hb
    replace D := D.below hb
    replace E := E.below hb
    replace OX := OX.below hb
    replace OY := OY.below hb
    replace HB := below_then HB hb
    clear hb
    refine ⟨_, rfl, fun a16 F16 => ?_⟩
    clear F15 a15
    refine kMove F16 rfl rfl rfl rfl rfl (fun a17 F17 => ?_)
    clear F16 a16
    refine kFin rfl ?_
    refine frNext ?_
    refine wp_ret ?_
    refine frThenRet ?_
    exact frRet1 rfl F17 rfl ⟨rfl, HB⟩
  rw [hL'] at F14
  refine kMove F14 rfl rfl rfl rfl rfl (fun a18 F18 => ?_)
  clear F14 a14
  refine kFin rfl ?_
  refine frNext ?_
  refine frCond (b := false) F18 rfl ?_
  simp only [Bool.false_eq_true, if_false]
  refine wp_skip ?_
  refine frNext ?_
  refine wp_seq ?_
  have hn5 : n ≤ 500 := by
    have := D.st.len
    simp [olong] at hL
    omega
  have hn5' : n' ≤ 500 := by
    have := E.st.len
    simp [olong] at hL'
    omega
  clear hL hL'
  have F19 := F18.sub (l' := [(2, .pointer (some ⟨w.heap.size, 0, none⟩)), (3, .pointer (some ⟨w.heap.size + 1, 0, none⟩))]) ⟨rfl, rfl, trivial⟩
  clear F18
  refine kGo ?_
  refine kTake (v := opv d A n c) F19 rfl rfl rfl rfl ?y20 (fun a20 F20 => ?h20)
  case y20 =>
    have q := OX.cs; have y0 := q.c0; have y1 := q.c1; have y2 := q.c2; have y3 := q.c3; have y4 := q.c4; have y5 := q.c5; have y6 := q.c6; have y7 := q.c7; have y8 := q.c8; have y9 := q.c9; have y10 := q.c10; have y11 := q.c11; clear q; have e2 := F19.ev 2 rfl; have g2 := F19.get 2 _ rfl
    go_simp; try with_reducible rfl
  clear F19 a18
  refine kCall F20 rfl rfl rfl rfl (Own7_d d A n c _ D hn5) ?y21 ?h21
  case y21 =>
    have e17 := F20.ev 17 rfl; have g17 := F20.get 17 _ rfl
    go_simp; try with_reducible rfl
  rintro e w3 ⟨⟨A1, c1, rfl, D1⟩, hb⟩
  replace RG := RG.below hb
  replace D := D.below hb
  replace E := E.below hb
  replace OX := OX.below hb
  replace OY := OY.below hb
  replace HB := below_then HB hb
  clear hb
  refine ⟨_, rfl, fun a21 F21 => ?_⟩
  clear F20 a20
  rcases hR : oright d with _ | _
  · skip
    refine kCall F21 rfl rfl rfl rfl (OPut_d d A1 n c1 _ D1 RG) ?y22 ?h22
    case y22 =>
      have e18 := F21.ev 18 rfl; have g18 := F21.get 18 _ rfl
      go_simp; try with_reducible rfl
    rintro e w4 ⟨-, hno⟩
    obtain ⟨rfl, hb⟩ := hno hR
    clear hno D1
    replace RG := RG.below hb
    replace D := D.below hb
    replace E := E.below hb
    replace OX := OX.below hb
    replace OY := OY.below hb
    replace HB := below_then HB hb
    clear hb
    refine ⟨_, rfl, fun a22 F22 => ?_⟩
    clear F21 a21
    refine kMove F22 rfl rfl rfl rfl rfl (fun a23 F23 => ?_)
    clear F22 a22
    refine kMove F23 rfl rfl rfl rfl rfl (fun a24 F24 => ?_)
    clear F23 a23
    refine kMove F24 rfl rfl rfl rfl rfl (fun a25 F25 => ?_)
    clear F24 a24
    refine kMove F25 rfl rfl rfl rfl rfl (fun a26 F26 => ?_)
    clear F25 a25
    refine kMove F26 rfl rfl rfl rfl rfl (fun a27 F27 => ?_)
    clear F26 a26
    have F28 := F27.sub (l' := [(2, .pointer (some ⟨w.heap.size, 0, none⟩)), (3, .pointer (some ⟨w.heap.size + 1, 0, none⟩)), (6, .int .i64 1)]) ⟨rfl, rfl, rfl, trivial⟩
    clear F27
    refine kFin rfl ?_
    refine frNext ?_
    refine wp_seq ?_
    refine kGo ?_
    refine kTake (v := opv d' A' n' c') F28 rfl rfl rfl rfl ?y29 (fun a29 F29 => ?h29)
    case y29 =>
      have q := OY.cs; have y0 := q.c0; have y1 := q.c1; have y2 := q.c2; have y3 := q.c3; have y4 := q.c4; have y5 := q.c5; have y6 := q.c6; have y7 := q.c7; have y8 := q.c8; have y9 := q.c9; have y10 := q.c10; have y11 := q.c11; clear q; have e3 := F28.ev 3 rfl; have g3 := F28.get 3 _ rfl
      go_simp; try with_reducible rfl
    clear F28 a27
    refine kCall F29 rfl rfl rfl rfl (Own7_d d' A' n' c' _ E hn5') ?y30 ?h30
    case y30 =>
      have e23 := F29.ev 23 rfl; have g23 := F29.get 23 _ rfl
      go_simp; try with_reducible rfl
    rintro e w5 ⟨⟨A2, c2, rfl, D2⟩, hb⟩
    replace RG := RG.below hb
    replace D := D.below hb
    replace E := E.below hb
    replace OX := OX.below hb
    replace OY := OY.below hb
    replace HB := below_then HB hb
    clear hb
    refine ⟨_, rfl, fun a30 F30 => ?_⟩
    clear F29 a29
    refine kCall F30 rfl rfl rfl rfl (OPut_d d' A2 n' c2 _ D2 RG) ?y31 ?h31
    case y31 =>
      have e24 := F30.ev 24 rfl; have g24 := F30.get 24 _ rfl
      go_simp; try with_reducible rfl
    rintro e w6 ⟨hok, hno⟩
    have hall : ∃ (v : Value) (e0 : Int), e = .returned (.tuple #[v, .int .i64 e0]) ∧ Below w5.heap.size w5 w6 := by
      rcases hR' : oright d' with _ | _
      · exact ⟨_, _, (hno hR').1, (hno hR').2⟩
      · obtain ⟨v1, e1, _, hb1⟩ := hok hR'
        exact ⟨_, _, e1, hb1⟩
    clear hok hno D2
    obtain ⟨v1, e0, rfl, hb⟩ := hall
    replace RG := RG.below hb
    replace D := D.below hb
    replace E := E.below hb
    replace OX := OX.below hb
    replace OY := OY.below hb
    replace HB := below_then HB hb
    clear hb
    refine ⟨_, rfl, fun a31 F31 => ?_⟩
    clear F30 a30
    refine kMove F31 rfl rfl rfl rfl rfl (fun a32 F32 => ?_)
    clear F31 a31
    refine kMove F32 rfl rfl rfl rfl rfl (fun a33 F33 => ?_)
    clear F32 a32
    refine kMove F33 rfl rfl rfl rfl rfl (fun a34 F34 => ?_)
    clear F33 a33
    refine kMove F34 rfl rfl rfl rfl rfl (fun a35 F35 => ?_)
    clear F34 a34
    refine kMove F35 rfl rfl rfl rfl rfl (fun a36 F36 => ?_)
    clear F35 a35
    have F37 := F36.sub (l' := [(2, .pointer (some ⟨w.heap.size, 0, none⟩)), (3, .pointer (some ⟨w.heap.size + 1, 0, none⟩)), (6, .int .i64 1), (8, .int .i64 e0)]) ⟨rfl, rfl, rfl, rfl, trivial⟩
    clear F36
    refine kFin rfl ?_
    refine frNext ?_
    refine wp_seq ?_
    refine wp_seq ?_
    refine kGo ?_
    refine kMove F37 rfl rfl rfl rfl rfl (fun a38 F38 => ?_)
    clear F37 a36
    refine kCall F38 rfl rfl rfl rfl (num7_any 1 _) ?y39 ?h39
    case y39 =>
      have e28 := F38.ev 28 rfl; have g28 := F38.get 28 _ rfl
      go_simp; try with_reducible rfl
    rintro e wN ⟨rfl, rfl⟩
    refine ⟨_, rfl, fun a39 F39 => ?_⟩
    clear F38 a38
    refine kTake (v := .bool true) F39 rfl rfl rfl rfl ?y40 (fun a40 F40 => ?h40)
    case y40 =>
      have e29 := F39.ev 29 rfl; have g29 := F39.get 29 _ rfl
      go_simp; try with_reducible rfl
    clear F39 a39
    refine kMove F40 rfl rfl rfl rfl rfl (fun a41 F41 => ?_)
    clear F40 a40
    refine kNot F41 rfl rfl rfl rfl (fun a42 F42 => ?_)
    clear F41 a41
    refine kNot F42 rfl rfl rfl rfl (fun a43 F43 => ?_)
    clear F42 a42
    refine kNot F43 rfl rfl rfl rfl (fun a44 F44 => ?_)
    clear F43 a43
    refine kMove F44 rfl rfl rfl rfl rfl (fun a45 F45 => ?_)
    clear F44 a44
    refine kFin rfl ?_
    refine frNext ?_
    refine frCond (b := true) F45 rfl ?_
    simp only [if_true]
    refine wp_seq ?_
    refine kGo ?_
    refine kCall F45 rfl rfl rfl rfl (knows7_any _ RG) ?y46 ?h46
    case y46 =>
      skip
      go_simp; try with_reducible rfl
    rintro e wN ⟨rfl, hb⟩
    replace RG := RG.below hb
    replace D := D.below hb
    replace E := E.below hb
    replace OX := OX.below hb
    replace OY := OY.below hb
    replace HB := below_then HB hb
    clear hb
    refine ⟨_, rfl, fun a46 F46 => ?_⟩
    clear F45 a45
    refine kMove F46 rfl rfl rfl rfl rfl (fun a47 F47 => ?_)
    clear F46 a46
    refine kFin rfl ?_
    refine frNext ?_
    refine wp_ret ?_
    refine frThenRet ?_
    exact frRet1 rfl F47 rfl ⟨rfl, HB⟩
  · skip
    refine kCall F21 rfl rfl rfl rfl (OPut_d d A1 n c1 _ D1 RG) ?y48 ?h48
    case y48 =>
      have e18 := F21.ev 18 rfl; have g18 := F21.get 18 _ rfl
      go_simp; try with_reducible rfl
    rintro e w4 ⟨hok, -⟩
    obtain ⟨v1, rfl, ho, hb⟩ := hok hR
    clear hok D1
    obtain ⟨Ab, nb, cb, rfl, hB, -⟩ := ho.form
    clear ho
    have hBl := hB.len
    replace RG := RG.below hb
    replace D := D.below hb
    replace E := E.below hb
    replace OX := OX.below hb
    replace OY := OY.below hb
    replace HB := below_then HB hb
    clear hb
    refine ⟨_, rfl, fun a48 F48 => ?_⟩
    clear F21 a21
    refine kMove F48 rfl rfl rfl rfl rfl (fun a49 F49 => ?_)
    clear F48 a48
    refine kMove F49 rfl rfl rfl rfl rfl (fun a50 F50 => ?_)
    clear F49 a49
    refine kMove F50 rfl rfl rfl rfl rfl (fun a51 F51 => ?_)
    clear F50 a50
    refine kMove F51 rfl rfl rfl rfl rfl (fun a52 F52 => ?_)
    clear F51 a51
    refine kMove F52 rfl rfl rfl rfl rfl (fun a53 F53 => ?_)
    clear F52 a52
    have F54 := F53.sub (l' := [(2, .pointer (some ⟨w.heap.size, 0, none⟩)), (3, .pointer (some ⟨w.heap.size + 1, 0, none⟩)), (5, .slice Ab nb cb), (6, .int .i64 0)]) ⟨rfl, rfl, rfl, rfl, trivial⟩
    clear F53
    refine kFin rfl ?_
    refine frNext ?_
    refine wp_seq ?_
    refine kGo ?_
    refine kTake (v := opv d' A' n' c') F54 rfl rfl rfl rfl ?y55 (fun a55 F55 => ?h55)
    case y55 =>
      have q := OY.cs; have y0 := q.c0; have y1 := q.c1; have y2 := q.c2; have y3 := q.c3; have y4 := q.c4; have y5 := q.c5; have y6 := q.c6; have y7 := q.c7; have y8 := q.c8; have y9 := q.c9; have y10 := q.c10; have y11 := q.c11; clear q; have e3 := F54.ev 3 rfl; have g3 := F54.get 3 _ rfl
      go_simp; try with_reducible rfl
    clear F54 a53
    refine kCall F55 rfl rfl rfl rfl (Own7_d d' A' n' c' _ E hn5') ?y56 ?h56
    case y56 =>
      have e23 := F55.ev 23 rfl; have g23 := F55.get 23 _ rfl
      go_simp; try with_reducible rfl
    rintro e w5 ⟨⟨A2, c2, rfl, D2⟩, hb⟩
    replace RG := RG.below hb
    replace D := D.below hb
    replace E := E.below hb
    replace OX := OX.below hb
    replace OY := OY.below hb
    replace hB := hB.below hb
    replace HB := below_then HB hb
    clear hb
    refine ⟨_, rfl, fun a56 F56 => ?_⟩
    clear F55 a55
    rcases hR' : oright d' with _ | _
    · skip
      refine kCall F56 rfl rfl rfl rfl (OPut_d d' A2 n' c2 _ D2 RG) ?y57 ?h57
      case y57 =>
        have e24 := F56.ev 24 rfl; have g24 := F56.get 24 _ rfl
        go_simp; try with_reducible rfl
      rintro e w6 ⟨-, hno⟩
      obtain ⟨rfl, hb⟩ := hno hR'
      clear hno D2
      replace RG := RG.below hb
      replace D := D.below hb
      replace E := E.below hb
      replace OX := OX.below hb
      replace OY := OY.below hb
      replace hB := hB.below hb
      replace HB := below_then HB hb
      clear hb
      refine ⟨_, rfl, fun a57 F57 => ?_⟩
      clear F56 a56
      refine kMove F57 rfl rfl rfl rfl rfl (fun a58 F58 => ?_)
      clear F57 a57
      refine kMove F58 rfl rfl rfl rfl rfl (fun a59 F59 => ?_)
      clear F58 a58
      refine kMove F59 rfl rfl rfl rfl rfl (fun a60 F60 => ?_)
      clear F59 a59
      refine kMove F60 rfl rfl rfl rfl rfl (fun a61 F61 => ?_)
      clear F60 a60
      refine kMove F61 rfl rfl rfl rfl rfl (fun a62 F62 => ?_)
      clear F61 a61
      have F63 := F62.sub (l' := [(2, .pointer (some ⟨w.heap.size, 0, none⟩)), (3, .pointer (some ⟨w.heap.size + 1, 0, none⟩)), (6, .int .i64 0), (8, .int .i64 1)]) ⟨rfl, rfl, rfl, rfl, trivial⟩
      clear F62
      refine kFin rfl ?_
      refine frNext ?_
      refine wp_seq ?_
      refine wp_seq ?_
      refine kGo ?_
      refine kMove F63 rfl rfl rfl rfl rfl (fun a64 F64 => ?_)
      clear F63 a62
      refine kCall F64 rfl rfl rfl rfl (num7_any 0 _) ?y65 ?h65
      case y65 =>
        have e28 := F64.ev 28 rfl; have g28 := F64.get 28 _ rfl
        go_simp; try with_reducible rfl
      rintro e wN ⟨rfl, rfl⟩
      refine ⟨_, rfl, fun a65 F65 => ?_⟩
      clear F64 a64
      refine kTake (v := .bool false) F65 rfl rfl rfl rfl ?y66 (fun a66 F66 => ?h66)
      case y66 =>
        have e29 := F65.ev 29 rfl; have g29 := F65.get 29 _ rfl
        go_simp; try with_reducible rfl
      clear F65 a65
      refine kMove F66 rfl rfl rfl rfl rfl (fun a67 F67 => ?_)
      clear F66 a66
      refine kMove F67 rfl rfl rfl rfl rfl (fun a68 F68 => ?_)
      clear F67 a67
      refine kCall F68 rfl rfl rfl rfl (num7_any 1 _) ?y69 ?h69
      case y69 =>
        have e32 := F68.ev 32 rfl; have g32 := F68.get 32 _ rfl
        go_simp; try with_reducible rfl
      rintro e wN ⟨rfl, rfl⟩
      refine ⟨_, rfl, fun a69 F69 => ?_⟩
      clear F68 a68
      refine kTake (v := .bool true) F69 rfl rfl rfl rfl ?y70 (fun a70 F70 => ?h70)
      case y70 =>
        have e33 := F69.ev 33 rfl; have g33 := F69.get 33 _ rfl
        go_simp; try with_reducible rfl
      clear F69 a69
      refine kMove F70 rfl rfl rfl rfl rfl (fun a71 F71 => ?_)
      clear F70 a70
      refine kFin rfl ?_
      refine frNext ?_
      refine frCond (b := true) F71 rfl ?_
      simp only [if_true]
      refine wp_seq ?_
      refine kGo ?_
      refine kCall F71 rfl rfl rfl rfl (knows7_any _ RG) ?y72 ?h72
      case y72 =>
        skip
        go_simp; try with_reducible rfl
      rintro e wN ⟨rfl, hb⟩
      replace RG := RG.below hb
      replace D := D.below hb
      replace E := E.below hb
      replace OX := OX.below hb
      replace OY := OY.below hb
      replace hB := hB.below hb
      replace HB := below_then HB hb
      clear hb
      refine ⟨_, rfl, fun a72 F72 => ?_⟩
      clear F71 a71
      refine kMove F72 rfl rfl rfl rfl rfl (fun a73 F73 => ?_)
      clear F72 a72
      refine kFin rfl ?_
      refine frNext ?_
      refine wp_ret ?_
      refine frThenRet ?_
      exact frRet1 rfl F73 rfl ⟨rfl, HB⟩
    · skip
      refine kCall F56 rfl rfl rfl rfl (OPut_d d' A2 n' c2 _ D2 RG) ?y74 ?h74
      case y74 =>
        have e24 := F56.ev 24 rfl; have g24 := F56.get 24 _ rfl
        go_simp; try with_reducible rfl
      rintro e w6 ⟨hok, -⟩
      obtain ⟨v2, rfl, ho, hb⟩ := hok hR'
      clear hok D2
      obtain ⟨Ac, nc, cc, rfl, hC, -⟩ := ho.form
      clear ho
      have hCl := hC.len
      replace RG := RG.below hb
      replace D := D.below hb
      replace E := E.below hb
      replace OX := OX.below hb
      replace OY := OY.below hb
      replace hB := hB.below hb
      replace HB := below_then HB hb
      clear hb
      refine ⟨_, rfl, fun a74 F74 => ?_⟩
      clear F56 a56
      refine kMove F74 rfl rfl rfl rfl rfl (fun a75 F75 => ?_)
      clear F74 a74
      refine kMove F75 rfl rfl rfl rfl rfl (fun a76 F76 => ?_)
      clear F75 a75
      refine kMove F76 rfl rfl rfl rfl rfl (fun a77 F77 => ?_)
      clear F76 a76
      refine kMove F77 rfl rfl rfl rfl rfl (fun a78 F78 => ?_)
      clear F77 a77
      refine kMove F78 rfl rfl rfl rfl rfl (fun a79 F79 => ?_)
      clear F78 a78
      have F80 := F79.sub (l' := [(2, .pointer (some ⟨w.heap.size, 0, none⟩)), (3, .pointer (some ⟨w.heap.size + 1, 0, none⟩)), (5, .slice Ab nb cb), (6, .int .i64 0), (7, .slice Ac nc cc), (8, .int .i64 0)]) ⟨rfl, rfl, rfl, rfl, rfl, rfl, trivial⟩
      clear F79
      refine kFin rfl ?_
      refine frNext ?_
      refine wp_seq ?_
      refine wp_seq ?_
      refine kGo ?_
      refine kMove F80 rfl rfl rfl rfl rfl (fun a81 F81 => ?_)
      clear F80 a79
      refine kCall F81 rfl rfl rfl rfl (num7_any 0 _) ?y82 ?h82
      case y82 =>
        have e28 := F81.ev 28 rfl; have g28 := F81.get 28 _ rfl
        go_simp; try with_reducible rfl
      rintro e wN ⟨rfl, rfl⟩
      refine ⟨_, rfl, fun a82 F82 => ?_⟩
      clear F81 a81
      refine kTake (v := .bool false) F82 rfl rfl rfl rfl ?y83 (fun a83 F83 => ?h83)
      case y83 =>
        have e29 := F82.ev 29 rfl; have g29 := F82.get 29 _ rfl
        go_simp; try with_reducible rfl
      clear F82 a82
      refine kMove F83 rfl rfl rfl rfl rfl (fun a84 F84 => ?_)
      clear F83 a83
      refine kMove F84 rfl rfl rfl rfl rfl (fun a85 F85 => ?_)
      clear F84 a84
      refine kCall F85 rfl rfl rfl rfl (num7_any 0 _) ?y86 ?h86
      case y86 =>
        have e32 := F85.ev 32 rfl; have g32 := F85.get 32 _ rfl
        go_simp; try with_reducible rfl
      rintro e wN ⟨rfl, rfl⟩
      refine ⟨_, rfl, fun a86 F86 => ?_⟩
      clear F85 a85
      refine kTake (v := .bool false) F86 rfl rfl rfl rfl ?y87 (fun a87 F87 => ?h87)
      case y87 =>
        have e33 := F86.ev 33 rfl; have g33 := F86.get 33 _ rfl
        go_simp; try with_reducible rfl
      clear F86 a86
      refine kMove F87 rfl rfl rfl rfl rfl (fun a88 F88 => ?_)
      clear F87 a87
      refine kFin rfl ?_
      refine frNext ?_
      refine frCond (b := false) F88 rfl ?_
      simp only [Bool.false_eq_true, if_false]
      refine wp_skip ?_
      refine frNext ?_
      refine wp_seq ?_
      have F89 := F88.sub (l' := [(2, .pointer (some ⟨w.heap.size, 0, none⟩)), (3, .pointer (some ⟨w.heap.size + 1, 0, none⟩)), (5, .slice Ab nb cb), (7, .slice Ac nc cc)]) ⟨rfl, rfl, rfl, rfl, trivial⟩
      clear F88
      have HB7 := HB.drew
      have OX7 := OX
      have OY7 := OY
      have B7 := hB
      have C7 := hC
      replace HB := HB7
      clear HB7
      have hS : Below w6.heap.size w6 w6.drew := (Below.refl _ w6).drew
      refine sGo (n := 15) (fun w' => Below w6.heap.size w6 w') rfl (by kernel_rfl) (hS) ?_
      replace RG := RG.below hS
      replace D := D.below hS
      replace E := E.below hS
      replace OX := OX.below hS
      replace OY := OY.below hS
      replace hB := hB.below hS
      replace hC := hC.below hS
      refine sMove 0 F89 rfl rfl rfl rfl (by kernel_rfl) (by kernel_rfl) (by kernel_rfl) (fun _ d _ _ _ h => by cases d <;> exact h) hS rfl (fun a90 F90 => ?_)
      clear F89 a88
      refine sFree 1 (v := .string (mkS (opB d))) F90 rfl rfl rfl rfl (by kernel_rfl) (by kernel_rfl) (by kernel_rfl) (fun _ d _ _ _ h => by cases d <;> exact h) hS ?y91 (fun a91 F91 => ?h91)
      case y91 =>
        intro wS hSw; have hs := run_string (P := Tryd.prog) 31 9 5 Tryd.underlying31 Tryd.underlying5 Tryd.underlying9 (B7.below hSw); have e37 := F90.ev 37 rfl; have g37 := F90.get 37 _ rfl
        go_simp; try with_reducible rfl
      clear F90 a90
      refine sMove 2 F91 rfl rfl rfl rfl (by kernel_rfl) (by kernel_rfl) (by kernel_rfl) (fun _ d _ _ _ h => by cases d <;> exact h) hS rfl (fun a92 F92 => ?_)
      clear F91 a91
      refine sFree 3 (v := (.string (mkS (opB d')))) F92 rfl rfl rfl rfl (by kernel_rfl) (by kernel_rfl) (by kernel_rfl) (fun _ d _ _ _ h => by cases d <;> exact h) hS ?y93 (fun a93 F93 => ?h93)
      case y93 =>
        intro wS hSw; have hs := run_string (P := Tryd.prog) 31 9 5 Tryd.underlying31 Tryd.underlying5 Tryd.underlying9 (C7.below hSw); have e39 := F92.ev 39 rfl; have g39 := F92.get 39 _ rfl
        go_simp; try with_reducible rfl
      clear F92 a92
      obtain ⟨sm, hsm⟩ : ∃ b, decide (opB d = opB d') = b := ⟨_, rfl⟩
      have HSM := hid hsm
      have HEQ := hid (show ((mkS (opB d)).toList == (mkS (opB d')).toList) = sm by
        rw [← hsm, ByteArray.toList_eq, ByteArray.toList_eq, mkS_toList, mkS_toList]
        by_cases q : opB d = opB d' <;> simp [q])
      clear hsm
      refine sFree 4 (v := .bool sm) F93 rfl rfl rfl rfl (by kernel_rfl) (by kernel_rfl) (by kernel_rfl) (fun _ d _ _ _ h => by cases d <;> exact h) hS ?y94 (fun a94 F94 => ?h94)
      case y94 =>
        intro wS hSw; have e38 := F93.ev 38 rfl; have g38 := F93.get 38 _ rfl; have e40 := F93.ev 40 rfl; have g40 := F93.get 40 _ rfl
        go_simp
        first | (rw [HEQ.out]; done) | (rw [← HEQ.out]; by_cases q : (mkS (opB d)).toList = (mkS (opB d')).toList <;> simp [q])
      clear F93 a93
      refine sFree 5 (v := opv d A n c) F94 rfl rfl rfl rfl (by kernel_rfl) (by kernel_rfl) (by kernel_rfl) (fun _ d _ _ _ h => by cases d <;> exact h) hS ?y95 (fun a95 F95 => ?h95)
      case y95 =>
        intro wS hSw; have q := (OX7.below hSw).cs; have y0 := q.c0; have y1 := q.c1; have y2 := q.c2; have y3 := q.c3; have y4 := q.c4; have y5 := q.c5; have y6 := q.c6; have y7 := q.c7; have y8 := q.c8; have y9 := q.c9; have y10 := q.c10; have y11 := q.c11; clear q; have e2 := F94.ev 2 rfl; have g2 := F94.get 2 _ rfl
        go_simp; try with_reducible rfl
      clear F94 a94
      refine sFree 7 (v := opv d' A' n' c') F95 rfl rfl rfl rfl (by kernel_rfl) (by kernel_rfl) (by kernel_rfl) (fun _ d _ _ _ h => by cases d <;> exact h) hS ?y96 (fun a96 F96 => ?h96)
      case y96 =>
        intro wS hSw; have q := (OY7.below hSw).cs; have y0 := q.c0; have y1 := q.c1; have y2 := q.c2; have y3 := q.c3; have y4 := q.c4; have y5 := q.c5; have y6 := q.c6; have y7 := q.c7; have y8 := q.c8; have y9 := q.c9; have y10 := q.c10; have y11 := q.c11; clear q; have e3 := F95.ev 3 rfl; have g3 := F95.get 3 _ rfl
        go_simp; try with_reducible rfl
      clear F95 a95
      refine sSolo 6 F96 rfl (by kernel_rfl) rfl (o1Call F96 rfl rfl (Own7_d d A n c _ D hn5) ?y97 ?h97)
      case y97 =>
        have e42 := F96.ev 42 rfl; have g42 := F96.get 42 _ rfl
        go_simp; try with_reducible rfl
      rintro e w8 ⟨⟨A3, c3, rfl, D3⟩, hb⟩
      replace RG := RG.below hb
      replace D := D.below hb
      replace E := E.below hb
      replace OX := OX.below hb
      replace OY := OY.below hb
      replace hB := hB.below hb
      replace hC := hC.below hb
      replace HB := below_then HB hb
      replace hS := below_then hS hb
      clear hb
      refine ⟨_, rfl, fun a97 F97 => ⟨hS, ?_⟩⟩
      clear F96 a96
      refine sSolo 8 F97 rfl (by kernel_rfl) rfl (o1Call F97 rfl rfl (Own7_d d' A' n' c' _ E hn5') ?y98 ?h98)
      case y98 =>
        have e44 := F97.ev 44 rfl; have g44 := F97.get 44 _ rfl
        go_simp; try with_reducible rfl
      rintro e w9 ⟨⟨A4, c4, rfl, D4⟩, hb⟩
      replace RG := RG.below hb
      replace D := D.below hb
      replace E := E.below hb
      replace OX := OX.below hb
      replace OY := OY.below hb
      replace hB := hB.below hb
      replace hC := hC.below hb
      replace D3 := D3.below hb
      replace HB := below_then HB hb
      replace hS := below_then hS hb
      clear hb
      refine ⟨_, rfl, fun a98 F98 => ⟨hS, ?_⟩⟩
      clear F97 a97
      have HOS := hid (show osame d d' = sm from by
        rw [← HSM.out, Bool.eq_iff_iff, osame_iff, decide_eq_true_eq]
        exact ⟨fun e => by rw [e], fun e => opB_inj hR hR' e⟩)
      refine sSolo 9 F98 rfl (by kernel_rfl) rfl (o1Call F98 rfl rfl (OSame_d d d' A3 n c3 A4 n' c4 _ D3 D4) ?y99 ?h99)
      case y99 =>
        have e43 := F98.ev 43 rfl; have g43 := F98.get 43 _ rfl; have e45 := F98.ev 45 rfl; have g45 := F98.get 45 _ rfl
        go_simp; try with_reducible rfl
      rw [HOS.out]
      rintro e w10 ⟨rfl, hb⟩
      clear D4
      replace RG := RG.below hb
      replace D := D.below hb
      replace E := E.below hb
      replace OX := OX.below hb
      replace OY := OY.below hb
      replace hB := hB.below hb
      replace hC := hC.below hb
      replace D3 := D3.below hb
      replace HB := below_then HB hb
      replace hS := below_then hS hb
      clear hb
      refine ⟨_, rfl, fun a99 F99 => ⟨hS, ?_⟩⟩
      clear F98 a98
      refine sFree 10 (v := .bool true) F99 rfl rfl rfl rfl (by kernel_rfl) (by kernel_rfl) (by kernel_rfl) (fun _ d _ _ _ h => by cases d <;> exact h) hS ?y100 (fun a100 F100 => ?h100)
      case y100 =>
        intro wS hSw; have e41 := F99.ev 41 rfl; have g41 := F99.get 41 _ rfl; have e46 := F99.ev 46 rfl; have g46 := F99.get 46 _ rfl
        cases sm <;> go_simp
      clear F99 a99
      refine sMove 11 F100 rfl rfl rfl rfl (by kernel_rfl) (by kernel_rfl) (by kernel_rfl) (fun _ d _ _ _ h => by cases d <;> exact h) hS rfl (fun a101 F101 => ?_)
      clear F100 a100
      refine sSolo 12 F101 rfl (by kernel_rfl) rfl (o1Call F101 rfl rfl (knows7_any _ RG) ?y102 ?h102)
      case y102 =>
        skip
        go_simp; try with_reducible rfl
      rintro e w11 ⟨rfl, hb⟩
      replace RG := RG.below hb
      replace D := D.below hb
      replace E := E.below hb
      replace OX := OX.below hb
      replace OY := OY.below hb
      replace hB := hB.below hb
      replace hC := hC.below hb
      replace D3 := D3.below hb
      replace HB := below_then HB hb
      replace hS := below_then hS hb
      clear hb
      refine ⟨_, rfl, fun a102 F102 => ⟨hS, ?_⟩⟩
      clear F101 a101
      refine sMove 13 F102 rfl rfl rfl rfl (by kernel_rfl) (by kernel_rfl) (by kernel_rfl) (fun _ d _ _ _ h => by cases d <;> exact h) hS rfl (fun a103 F103 => ?_)
      clear F102 a102
      refine sMove 14 F103 rfl rfl rfl rfl (by kernel_rfl) (by kernel_rfl) (by kernel_rfl) (fun _ d _ _ _ h => by cases d <;> exact h) hS rfl (fun a104 F104 => ?_)
      clear F103 a103
      refine sFin (by kernel_rfl) ?_
      refine frNext ?_
      refine wp_ret ?_
      exact frRet1 rfl F104 rfl ⟨rfl, HB⟩
theorem OpOne_row (a : Array Value) (x : shOp.T) (b : Array Value) (y : shOp.T) (w : World) (h : shOp.reads w a.toList x) (h' : shOp.reads w b.toList y) (hg : RootsAt w) :
    Calls Tryd.prog 3 #[.agg a, .agg b] w fun e w' => e = .returned (.bool true) ∧ Below w.heap.size w w' := by
  obtain ⟨d, A, n, c, rfl, h1⟩ := op_cut h
  obtain ⟨d', A', n', c', rfl, h2⟩ := op_cut h'
  exact OpOne_walk d A n c d' A' n' c' w h1 h2 hg

end Go.Proofs.YtnakanophilfhaaDoor
