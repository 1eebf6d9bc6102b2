/- OpReads: bytes that are read as an op are the beginning of what that op is written as. -/
import Derived.Test.YtnakanophilfhaaDoorLawOB
import Derived.Test.YtnakanophilfhaaDoorPureOI
namespace Go.Proofs.YtnakanophilfhaaDoor
open Go.RowKit Go.Dio
set_option linter.unusedVariables false
set_option linter.unusedSimpArgs false

set_option maxRecDepth 100000 in
set_option maxHeartbeats 4000000 in
theorem OpReads_walk (A : Option Addr) (n c : Nat) (xs : List UInt8) (w : World) (h : IsB w A n c xs) (hn : n ≤ 140737488351232) (hg : RootsAt w) : Calls Tryd.prog 5 #[.slice A n c] w fun e w' => e = .returned (.bool true) ∧ Below w.heap.size w w' := by
  rcases hT : tOp (xs, 0) with ⟨d, s'⟩
  obtain ⟨i1, i2⟩ := tOp_inv hT
  have HT := hid hT
  have I1 := hid i1
  have I2 := hid i2
  clear hT i1 i2
  have HB := Below.refl w.heap.size w
  have RG := hg
  have IN := h
  have RG00 := hg
  have IN00 := h
  clear h hg
  refine frCall (args := [.slice A n c]) (N := 65) Tryd.func5 rfl rfl rfl (fun a0 F0 => ?_)
  refine wp_seq ?_
  refine kGo ?_
  refine kMove F0 rfl rfl rfl rfl rfl (fun a1 F1 => ?_)
  clear F0 a0
  refine kFin rfl ?_
  refine frNext ?_
  refine wp_seq ?_
  refine kGo ?_
  refine kVal (v := ?v2) (w' := w.alloc (.cells #[] 5)) F1 rfl rfl rfl rfl ?y2 (fun a2 F2 => ?h2)
  case y2 =>
    skip
    go_simp
    all_goals (first | with_reducible rfl | (constructor <;> first | with_reducible rfl | rfl) | skip)
  clear F1 a1
  have hb := below_alloc1 w (.cells #[] 5)
  have HO : OwnB 5 (w.alloc (.cells #[] 5)) w.heap.size (.slice (some ⟨w.heap.size, 0, none⟩) 0 0) [] := OwnB.lit 5 w w.heap.size [] (Nat.le_refl _) (by simp)
  replace RG := RG.below hb
  replace IN := IN.below hb
  replace HB := below_then HB hb
  clear hb
  generalize w.alloc (.cells #[] 5) = w1 at *
  refine kMove F2 rfl rfl rfl rfl rfl (fun a3 F3 => ?_)
  clear F2 a2
  have hIN := IN
  refine kAppB (w0 := w) w.heap.size F3 rfl rfl rfl rfl (t := 31) (e := 5) rfl Tryd.underlying31 info_u8 rfl rfl HO hIN HB HB.size ?c4 ?h4
  case c4 => simp; omega
  clear hIN
  intro v1 w2 HO2 HB2 hg a4 F4
  have hne : ∀ k, (Value.slice (some ⟨w.heap.size, 0, none⟩) 0 0).ownBlock = some k → k = w.heap.size := fun k hk => by cases hk; rfl
  replace IN : IsB w2 A n c xs := by
    exact IN00.below HB2
  replace RG : RootsAt w2 := RG00.below HB2
  clear HB
  have HB := HB2
  clear HB2 HO hg F3 a3 hne
  obtain ⟨Ab, nb, cb, rfl, hB, -⟩ := HO2.form
  clear HO2
  rw [List.nil_append] at hB
  have hBl := hB.len
  have hIl := IN.len
  refine kCall F4 rfl rfl rfl rfl (Open_any Ab nb cb _ _ hB (by omega)) ?y5 ?h5
  case y5 =>
    have e9 := F4.ev 9 rfl; have g9 := F4.get 9 _ rfl
    go_simp; try with_reducible rfl
  rintro e w3 ⟨rb, rfl, hR, hbO⟩
  refine ⟨_, rfl, fun a5 F5 => ?_⟩
  clear F4 a4
  refine kMove F5 rfl rfl rfl rfl rfl (fun a6 F6 => ?_)
  clear F5 a5
  have F7 := F6.sub (l' := [(0, .slice A n c), (3, .pointer (some ⟨rb, 0, none⟩))]) ⟨rfl, rfl, trivial⟩
  clear F6
  refine kFin rfl ?_
  refine frNext ?_
  refine wp_seq ?_
  refine kGo ?_
  refine kMove F7 rfl rfl rfl rfl rfl (fun a8 F8 => ?_)
  clear F7 a6
  have hc := OTake_e w2.heap.size rb (xs, 0) _ hR (RG.below hbO) RG.two
  rw [HT.out] at hc
  dsimp only at hc
  refine kCall F8 rfl rfl rfl rfl (hc) ?y9 ?h9
  case y9 =>
    have e11 := F8.ev 11 rfl; have g11 := F8.get 11 _ rfl
    go_simp; try with_reducible rfl
  rintro e w4 ⟨Ay, ny, cy, rfl, DY, hYa, hR4, hg⟩
  have hb := hbO.grown hg hbO.size (fun q hq => by cases hq; exact hR.lo)
  clear hg hbO hR hYa hB
  replace RG := RG.below hb
  replace IN := IN.below hb
  replace HB := below_then HB hb
  clear hb
  refine ⟨_, rfl, fun a9 F9 => ?_⟩
  clear F8 a8
  refine kVal (v := ?v10) (w' := w4.alloc (oo ⟨0, 0, 0, 0, 0, ⟨#[]⟩, [], 0, 0, 0, ⟨#[]⟩, false⟩ none 0 0)) F9 rfl rfl rfl rfl ?y10 (fun a10 F10 => ?h10)
  case y10 =>
    skip
    go_simp
    all_goals (first | with_reducible rfl | (constructor <;> first | with_reducible rfl | rfl) | skip)
  clear F9 a9
  refine kStore (w' := w4.alloc (oo d Ay ny cy)) F10 rfl rfl rfl ?y11 (fun a11 F11 => ?h11)
  case y11 =>
    have e4 := F10.ev 4 rfl; have g4 := F10.get 4 _ rfl; have e12 := F10.ev 12 rfl; have g12 := F10.get 12 _ rfl
    go_simp; try with_reducible rfl
  clear F10 a10
  have F12 := F11.sub (l' := [(0, .slice A n c), (3, .pointer (some ⟨rb, 0, none⟩)), (4, .pointer (some ⟨w4.heap.size, 0, none⟩))]) ⟨rfl, rfl, rfl, trivial⟩
  clear F11
  have hb := below_alloc1 w4 (oo d Ay ny cy)
  have OY := OAt.new w4 d Ay ny cy _ rfl
  replace RG := RG.below hb
  replace IN := IN.below hb
  replace DY := DY.below hb
  replace hR4 := hR4.below hb
  replace HB := below_then HB hb
  clear hb
  generalize w4.alloc (oo d Ay ny cy) = w5 at *
  refine kFin rfl ?_
  refine frNext ?_
  refine wp_seq ?_
  refine wp_seq ?_
  refine kGo ?_
  refine kMove F12 rfl rfl rfl rfl rfl (fun a13 F13 => ?_)
  clear F12 a11
  refine kCall F13 rfl rfl rfl rfl (Err_r _ rb s' _ hR4) ?y14 ?h14
  case y14 =>
    have e13 := F13.ev 13 rfl; have g13 := F13.get 13 _ rfl
    go_simp; try with_reducible rfl
  rintro e wN ⟨rfl, rfl⟩
  refine ⟨_, rfl, fun a14 F14 => ?_⟩
  clear F13 a13
  refine kCall F14 rfl rfl rfl rfl (num7_any s'.2 _) ?y15 ?h15
  case y15 =>
    have e14 := F14.ev 14 rfl; have g14 := F14.get 14 _ rfl
    go_simp; try with_reducible rfl
  rintro e wN ⟨rfl, rfl⟩
  refine ⟨_, rfl, fun a15 F15 => ?_⟩
  clear F14 a14
  by_cases hz : ¬ s'.2 = 0
  · skip
    have hz2 : (s'.2 == 0) = false := by simp [hz]
    have hd := I2.out hz
    subst hd
    refine kTake (v := .bool true) F15 rfl rfl rfl rfl ?y16 (fun a16 F16 => ?h16)
    case y16 =>
      have e15 := F15.ev 15 rfl; have g15 := F15.get 15 _ rfl
      go_simp; try with_reducible rfl
    clear F15 a15
    refine kMove F16 rfl rfl rfl rfl rfl (fun a17 F17 => ?_)
    clear F16 a16
    refine kNot F17 rfl rfl rfl rfl (fun a18 F18 => ?_)
    clear F17 a17
    refine kNot F18 rfl rfl rfl rfl (fun a19 F19 => ?_)
    clear F18 a18
    refine kNot F19 rfl rfl rfl rfl (fun a20 F20 => ?_)
    clear F19 a19
    refine kMove F20 rfl rfl rfl rfl rfl (fun a21 F21 => ?_)
    clear F20 a20
    refine kFin rfl ?_
    refine frNext ?_
    refine frCond (b := true) F21 rfl ?_
    simp only [if_true]
    refine wp_seq ?_
    have F22 := F21.sub (l' := [(0, .slice A n c), (3, .pointer (some ⟨rb, 0, none⟩)), (4, .pointer (some ⟨w4.heap.size, 0, none⟩))]) ⟨rfl, rfl, rfl, trivial⟩
    clear F21
    refine kGo ?_
    refine kTake (v := opv opNil Ay ny cy) F22 rfl rfl rfl rfl ?y23 (fun a23 F23 => ?h23)
    case y23 =>
      have q := OY.cs; have y0 := q.c0; have y1 := q.c1; have y2 := q.c2; have y3 := q.c3; have y4 := q.c4; have y5 := q.c5; have y6 := q.c6; have y7 := q.c7; have y8 := q.c8; have y9 := q.c9; have y10 := q.c10; have y11 := q.c11; clear q; have e4 := F22.ev 4 rfl; have g4 := F22.get 4 _ rfl
      go_simp; try with_reducible rfl
    clear F22 a21
    refine kCall F23 rfl rfl rfl rfl (ORight_d opNil Ay ny cy _ DY RG) ?y24 ?h24
    case y24 =>
      have e22 := F23.ev 22 rfl; have g22 := F23.get 22 _ rfl
      go_simp; try with_reducible rfl
    rw [show oright opNil = false by decide]
    rintro e w6 ⟨rfl, hb⟩
    replace RG := RG.below hb
    replace IN := IN.below hb
    replace DY := DY.below hb
    replace hR4 := hR4.below hb
    replace OY := OY.below hb
    replace HB := below_then HB hb
    clear hb
    refine ⟨_, rfl, fun a24 F24 => ?_⟩
    clear F23 a23
    refine kMove F24 rfl rfl rfl rfl rfl (fun a25 F25 => ?_)
    clear F24 a24
    refine kMove F25 rfl rfl rfl rfl rfl (fun a26 F26 => ?_)
    clear F25 a25
    refine kNot F26 rfl rfl rfl rfl (fun a27 F27 => ?_)
    clear F26 a26
    refine kNot F27 rfl rfl rfl rfl (fun a28 F28 => ?_)
    clear F27 a27
    refine kNot F28 rfl rfl rfl rfl (fun a29 F29 => ?_)
    clear F28 a28
    refine kNot F29 rfl rfl rfl rfl (fun a30 F30 => ?_)
    clear F29 a29
    refine kMove F30 rfl rfl rfl rfl rfl (fun a31 F31 => ?_)
    clear F30 a30
    refine kMove F31 rfl rfl rfl rfl rfl (fun a32 F32 => ?_)
    clear F31 a31
    refine kCall F32 rfl rfl rfl rfl (knows7_any _ RG) ?y33 ?h33
    case y33 =>
      skip
      go_simp; try with_reducible rfl
    rintro e w7 ⟨rfl, hb⟩
    replace RG := RG.below hb
    replace IN := IN.below hb
    replace DY := DY.below hb
    replace hR4 := hR4.below hb
    replace OY := OY.below hb
    replace HB := below_then HB hb
    clear hb
    refine ⟨_, rfl, fun a33 F33 => ?_⟩
    clear F32 a32
    refine kMove F33 rfl rfl rfl rfl rfl (fun a34 F34 => ?_)
    clear F33 a33
    refine kMove F34 rfl rfl rfl rfl rfl (fun a35 F35 => ?_)
    clear F34 a34
    refine kFin rfl ?_
    refine frNext ?_
    refine wp_ret ?_
    refine frThenRet ?_
    exact frRet1 rfl F35 rfl ⟨rfl, HB⟩
  · skip
    replace hz : s'.2 = 0 := by omega
    have hz2 : (s'.2 == 0) = true := by simp [hz]
    obtain ⟨hR, -, hxs⟩ := I1.out hz
    dsimp only at hxs
    clear I1 I2
    have HXS := hid hxs
    clear hxs
    refine kTake (v := .bool false) F15 rfl rfl rfl rfl ?y36 (fun a36 F36 => ?h36)
    case y36 =>
      have e15 := F15.ev 15 rfl; have g15 := F15.get 15 _ rfl
      go_simp; try with_reducible rfl
    clear F15 a15
    refine kMove F36 rfl rfl rfl rfl rfl (fun a37 F37 => ?_)
    clear F36 a36
    refine kTake (v := opv d Ay ny cy) F37 rfl rfl rfl rfl ?y38 (fun a38 F38 => ?h38)
    case y38 =>
      have q := OY.cs; have y0 := q.c0; have y1 := q.c1; have y2 := q.c2; have y3 := q.c3; have y4 := q.c4; have y5 := q.c5; have y6 := q.c6; have y7 := q.c7; have y8 := q.c8; have y9 := q.c9; have y10 := q.c10; have y11 := q.c11; clear q; have e4 := F37.ev 4 rfl; have g4 := F37.get 4 _ rfl
      go_simp; try with_reducible rfl
    clear F37 a37
    refine kCall F38 rfl rfl rfl rfl (ORight_d d Ay ny cy _ DY RG) ?y39 ?h39
    case y39 =>
      have e18 := F38.ev 18 rfl; have g18 := F38.get 18 _ rfl
      go_simp; try with_reducible rfl
    rw [hR]
    rintro e w6 ⟨rfl, hb⟩
    replace RG := RG.below hb
    replace IN := IN.below hb
    replace DY := DY.below hb
    replace hR4 := hR4.below hb
    replace OY := OY.below hb
    replace HB := below_then HB hb
    clear hb
    refine ⟨_, rfl, fun a39 F39 => ?_⟩
    clear F38 a38
    refine kMove F39 rfl rfl rfl rfl rfl (fun a40 F40 => ?_)
    clear F39 a39
    refine kMove F40 rfl rfl rfl rfl rfl (fun a41 F41 => ?_)
    clear F40 a40
    refine kFin rfl ?_
    refine frNext ?_
    refine frCond (b := false) F41 rfl ?_
    simp only [Bool.false_eq_true, if_false]
    refine wp_skip ?_
    refine frNext ?_
    refine wp_seq ?_
    have F42 := F41.sub (l' := [(0, .slice A n c), (3, .pointer (some ⟨rb, 0, none⟩)), (4, .pointer (some ⟨w4.heap.size, 0, none⟩))]) ⟨rfl, rfl, rfl, trivial⟩
    clear F41
    clear hz hz2
    refine kGo ?_
    refine kTake (v := opv d Ay ny cy) F42 rfl rfl rfl rfl ?y43 (fun a43 F43 => ?h43)
    case y43 =>
      have q := OY.cs; have y0 := q.c0; have y1 := q.c1; have y2 := q.c2; have y3 := q.c3; have y4 := q.c4; have y5 := q.c5; have y6 := q.c6; have y7 := q.c7; have y8 := q.c8; have y9 := q.c9; have y10 := q.c10; have y11 := q.c11; clear q; have e4 := F42.ev 4 rfl; have g4 := F42.get 4 _ rfl
      go_simp; try with_reducible rfl
    clear F42 a41
    refine kCall F43 rfl rfl rfl rfl (OPut_d d Ay ny cy _ DY RG) ?y44 ?h44
    case y44 =>
      have e35 := F43.ev 35 rfl; have g35 := F43.get 35 _ rfl
      go_simp; try with_reducible rfl
    rintro e w7 ⟨hok, -⟩
    obtain ⟨v1, rfl, ho, hb⟩ := hok hR
    clear hok
    obtain ⟨Ab, nb, cb, rfl, hB, -⟩ := ho.form
    clear ho
    have hBl := hB.len
    replace RG := RG.below hb
    replace IN := IN.below hb
    replace DY := DY.below hb
    replace hR4 := hR4.below hb
    replace OY := OY.below hb
    replace HB := below_then HB hb
    clear hb
    refine ⟨_, rfl, fun a44 F44 => ?_⟩
    clear F43 a43
    refine kMove F44 rfl rfl rfl rfl rfl (fun a45 F45 => ?_)
    clear F44 a44
    refine kMove F45 rfl rfl rfl rfl rfl (fun a46 F46 => ?_)
    clear F45 a45
    refine kMove F46 rfl rfl rfl rfl rfl (fun a47 F47 => ?_)
    clear F46 a46
    refine kMove F47 rfl rfl rfl rfl rfl (fun a48 F48 => ?_)
    clear F47 a47
    refine kMove F48 rfl rfl rfl rfl rfl (fun a49 F49 => ?_)
    clear F48 a48
    have F50 := F49.sub (l' := [(0, .slice A n c), (3, .pointer (some ⟨rb, 0, none⟩)), (5, .slice Ab nb cb), (6, .int .i64 0)]) ⟨rfl, rfl, rfl, rfl, trivial⟩
    clear F49
    refine kFin rfl ?_
    refine frNext ?_
    refine wp_seq ?_
    have hsum : nb + s'.1.length = n := by
      rw [← hBl, ← hIl, HXS.out, List.length_append]
    have htk : xs.take nb = opB d := by rw [HXS.out, ← hBl]; exact List.take_left
    have HTK := hid htk
    clear htk
    have hcap := IN.cap
    have hmax := IN.max
    have HB7 := HB.drew
    have B7 := hB
    have N7 := IN
    replace HB := HB7
    clear HB7
    have hS : Below w7.heap.size w7 w7.drew := (Below.refl _ w7).drew
    refine sGo (n := 27) (fun w' => Below w7.heap.size w7 w') rfl (by kernel_rfl) (hS) ?_
    replace RG := RG.below hS
    replace IN := IN.below hS
    replace DY := DY.below hS
    replace hR4 := hR4.below hS
    replace OY := OY.below hS
    replace hB := hB.below hS
    refine sMove 0 F50 rfl rfl rfl rfl (by kernel_rfl) (by kernel_rfl) (by kernel_rfl) (fun _ d _ _ _ h => by cases d <;> exact h) hS rfl (fun a51 F51 => ?_)
    clear F50 a49
    refine sSolo 1 F51 rfl (by kernel_rfl) rfl (o1Call F51 rfl rfl (num7_any 0 _) ?y52 ?h52)
    case y52 =>
      have e39 := F51.ev 39 rfl; have g39 := F51.get 39 _ rfl
      go_simp; try with_reducible rfl
    rintro e wN ⟨rfl, rfl⟩
    refine ⟨_, rfl, fun a52 F52 => ⟨hS, ?_⟩⟩
    clear F51 a51
    refine sFree 2 (v := .bool true) F52 rfl rfl rfl rfl (by kernel_rfl) (by kernel_rfl) (by kernel_rfl) (fun _ d _ _ _ h => by cases d <;> exact h) hS ?y53 (fun a53 F53 => ?h53)
    case y53 =>
      intro wS hSw; have e40 := F52.ev 40 rfl; have g40 := F52.get 40 _ rfl
      go_simp; try with_reducible rfl
    clear F52 a52
    refine sMove 3 F53 rfl rfl rfl rfl (by kernel_rfl) (by kernel_rfl) (by kernel_rfl) (fun _ d _ _ _ h => by cases d <;> exact h) hS rfl (fun a54 F54 => ?_)
    clear F53 a53
    refine sMove 4 F54 rfl rfl rfl rfl (by kernel_rfl) (by kernel_rfl) (by kernel_rfl) (fun _ d _ _ _ h => by cases d <;> exact h) hS rfl (fun a55 F55 => ?_)
    clear F54 a54
    refine sFree 5 (v := ?v56) F55 rfl rfl rfl rfl (by kernel_rfl) (by kernel_rfl) (by kernel_rfl) (fun _ d _ _ _ h => by cases d <;> exact h) hS ?y56 (fun a56 F56 => ?h56)
    case y56 =>
      intro wS hSw; have e43 := F55.ev 43 rfl; have g43 := F55.get 43 _ rfl
      go_simp; try with_reducible rfl
    clear F55 a55
    refine sMove 6 F56 rfl rfl rfl rfl (by kernel_rfl) (by kernel_rfl) (by kernel_rfl) (fun _ d _ _ _ h => by cases d <;> exact h) hS rfl (fun a57 F57 => ?_)
    clear F56 a56
    refine sMove 9 F57 rfl rfl rfl rfl (by kernel_rfl) (by kernel_rfl) (by kernel_rfl) (fun _ d _ _ _ h => by cases d <;> exact h) hS rfl (fun a58 F58 => ?_)
    clear F57 a57
    refine sFree 10 (v := ?v59) F58 rfl rfl rfl rfl (by kernel_rfl) (by kernel_rfl) (by kernel_rfl) (fun _ d _ _ _ h => by cases d <;> exact h) hS ?y59 (fun a59 F59 => ?h59)
    case y59 =>
      intro wS hSw; have e48 := F58.ev 48 rfl; have g48 := F58.get 48 _ rfl
      go_simp; try with_reducible rfl
    clear F58 a58
    refine sSolo 7 F59 rfl (by kernel_rfl) rfl (o1Call F59 rfl rfl (Left_r _ rb s' _ hR4) ?y60 ?h60)
    case y60 =>
      have e45 := F59.ev 45 rfl; have g45 := F59.get 45 _ rfl
      go_simp; try with_reducible rfl
    rintro e wN ⟨rfl, rfl⟩
    refine ⟨_, rfl, fun a60 F60 => ⟨hS, ?_⟩⟩
    clear F59 a59
    refine sFree 8 (v := .int .i64 (n : Int)) F60 rfl rfl rfl rfl (by kernel_rfl) (by kernel_rfl) (by kernel_rfl) (fun _ d _ _ _ h => by cases d <;> exact h) hS ?y61 (fun a61 F61 => ?h61)
    case y61 =>
      intro wS hSw; have e44 := F60.ev 44 rfl; have g44 := F60.get 44 _ rfl; have e46 := F60.ev 46 rfl; have g46 := F60.get 46 _ rfl
      first | (go_simp; done) | (go_simp; simp only [IntKind.wrap_i64]; omega)
    clear F60 a60
    refine sFree 11 (v := .bool true) F61 rfl rfl rfl rfl (by kernel_rfl) (by kernel_rfl) (by kernel_rfl) (fun _ d _ _ _ h => by cases d <;> exact h) hS ?y62 (fun a62 F62 => ?h62)
    case y62 =>
      intro wS hSw; have e47 := F61.ev 47 rfl; have g47 := F61.get 47 _ rfl; have e49 := F61.ev 49 rfl; have g49 := F61.get 49 _ rfl
      go_simp; try with_reducible rfl
    clear F61 a61
    refine sMove 12 F62 rfl rfl rfl rfl (by kernel_rfl) (by kernel_rfl) (by kernel_rfl) (fun _ d _ _ _ h => by cases d <;> exact h) hS rfl (fun a63 F63 => ?_)
    clear F62 a62
    refine sMove 13 F63 rfl rfl rfl rfl (by kernel_rfl) (by kernel_rfl) (by kernel_rfl) (fun _ d _ _ _ h => by cases d <;> exact h) hS rfl (fun a64 F64 => ?_)
    clear F63 a63
    refine sMove 14 F64 rfl rfl rfl rfl (by kernel_rfl) (by kernel_rfl) (by kernel_rfl) (fun _ d _ _ _ h => by cases d <;> exact h) hS rfl (fun a65 F65 => ?_)
    clear F64 a64
    refine sFree 15 (v := .string (mkS (opB d))) F65 rfl rfl rfl rfl (by kernel_rfl) (by kernel_rfl) (by kernel_rfl) (fun _ d _ _ _ h => by cases d <;> exact h) hS ?y66 (fun a66 F66 => ?h66)
    case y66 =>
      intro wS hSw; have hs := run_string (P := Tryd.prog) 31 9 5 Tryd.underlying31 Tryd.underlying5 Tryd.underlying9 (B7.below hSw); have e53 := F65.ev 53 rfl; have g53 := F65.get 53 _ rfl
      go_simp; try with_reducible rfl
    clear F65 a65
    refine sMove 16 F66 rfl rfl rfl rfl (by kernel_rfl) (by kernel_rfl) (by kernel_rfl) (fun _ d _ _ _ h => by cases d <;> exact h) hS rfl (fun a67 F67 => ?_)
    clear F66 a66
    refine sMove 17 F67 rfl rfl rfl rfl (by kernel_rfl) (by kernel_rfl) (by kernel_rfl) (fun _ d _ _ _ h => by cases d <;> exact h) hS rfl (fun a68 F68 => ?_)
    clear F67 a67
    refine sFree 18 (v := ?v69) F68 rfl rfl rfl rfl (by kernel_rfl) (by kernel_rfl) (by kernel_rfl) (fun _ d _ _ _ h => by cases d <;> exact h) hS ?y69 (fun a69 F69 => ?h69)
    case y69 =>
      intro wS hSw; have e56 := F68.ev 56 rfl; have g56 := F68.get 56 _ rfl
      go_simp; try with_reducible rfl
    clear F68 a68
    refine sFree 19 (v := .slice (cutA A c 0 1) nb c) F69 rfl rfl rfl rfl (by kernel_rfl) (by kernel_rfl) (by kernel_rfl) (fun _ d _ _ _ h => by cases d <;> exact h) hS ?y70 (fun a70 F70 => ?h70)
    case y70 =>
      intro wS hSw; have hcut := run_cut_h (P := Tryd.prog) 31 5 Tryd.underlying31 (info_parts info_u8).choose_spec.1 (info_parts info_u8).choose_spec.2.2.1 A n c .i64 (nb : Int) (by omega) (by omega); rw [Int.toNat_natCast] at hcut; have e55 := F69.ev 55 rfl; have g55 := F69.get 55 _ rfl; have e57 := F69.ev 57 rfl; have g57 := F69.get 57 _ rfl
      go_simp; try with_reducible rfl
    clear F69 a69
    refine sFree 20 (v := .string (mkS (opB d))) F70 rfl rfl rfl rfl (by kernel_rfl) (by kernel_rfl) (by kernel_rfl) (fun _ d _ _ _ h => by cases d <;> exact h) hS ?y71 (fun a71 F71 => ?h71)
    case y71 =>
      intro wS hSw; have hs := run_string (P := Tryd.prog) 31 9 5 Tryd.underlying31 Tryd.underlying5 Tryd.underlying9 ((N7.below hSw).take nb (by omega)); rw [HTK.out] at hs; have e58 := F70.ev 58 rfl; have g58 := F70.get 58 _ rfl
      go_simp; try with_reducible rfl
    clear F70 a70
    refine sFree 21 (v := .bool true) F71 rfl rfl rfl rfl (by kernel_rfl) (by kernel_rfl) (by kernel_rfl) (fun _ d _ _ _ h => by cases d <;> exact h) hS ?y72 (fun a72 F72 => ?h72)
    case y72 =>
      intro wS hSw; have e54 := F71.ev 54 rfl; have g54 := F71.get 54 _ rfl; have e59 := F71.ev 59 rfl; have g59 := F71.get 59 _ rfl
      go_simp; try with_reducible rfl
    clear F71 a71
    refine sMove 22 F72 rfl rfl rfl rfl (by kernel_rfl) (by kernel_rfl) (by kernel_rfl) (fun _ d _ _ _ h => by cases d <;> exact h) hS rfl (fun a73 F73 => ?_)
    clear F72 a72
    refine sMove 23 F73 rfl rfl rfl rfl (by kernel_rfl) (by kernel_rfl) (by kernel_rfl) (fun _ d _ _ _ h => by cases d <;> exact h) hS rfl (fun a74 F74 => ?_)
    clear F73 a73
    refine sSolo 24 F74 rfl (by kernel_rfl) rfl (o1Call F74 rfl rfl (knows7_any _ RG) ?y75 ?h75)
    case y75 =>
      skip
      go_simp; try with_reducible rfl
    rintro e w11 ⟨rfl, hb⟩
    replace RG := RG.below hb
    replace IN := IN.below hb
    replace DY := DY.below hb
    replace hR4 := hR4.below hb
    replace OY := OY.below hb
    replace hB := hB.below hb
    replace HB := below_then HB hb
    replace hS := below_then hS hb
    clear hb
    refine ⟨_, rfl, fun a75 F75 => ⟨hS, ?_⟩⟩
    clear F74 a74
    refine sMove 25 F75 rfl rfl rfl rfl (by kernel_rfl) (by kernel_rfl) (by kernel_rfl) (fun _ d _ _ _ h => by cases d <;> exact h) hS rfl (fun a76 F76 => ?_)
    clear F75 a75
    refine sMove 26 F76 rfl rfl rfl rfl (by kernel_rfl) (by kernel_rfl) (by kernel_rfl) (fun _ d _ _ _ h => by cases d <;> exact h) hS rfl (fun a77 F77 => ?_)
    clear F76 a76
    refine sFin (by kernel_rfl) ?_
    refine frNext ?_
    refine wp_ret ?_
    exact frRet1 rfl F77 rfl ⟨rfl, HB⟩
theorem OpReads_row (A : Option Addr) (n c : Nat) (xs : List UInt8) (w : World) (h : IsB w A n c xs) (hn : n ≤ 140737488351232) (hg : RootsAt w) :
    Calls Tryd.prog 5 #[.slice A n c] w fun e w' => e = .returned (.bool true) ∧ Below w.heap.size w w' := OpReads_walk A n c xs w h hn hg

end Go.Proofs.YtnakanophilfhaaDoor
