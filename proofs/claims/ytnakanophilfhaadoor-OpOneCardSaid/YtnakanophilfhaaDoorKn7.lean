/- Layer 7: what the statements ask besides: a mark's bytes. -/
import Derived.Test.YtnakanophilfhaaDoorOd
namespace Go.Proofs.YtnakanophilfhaaDoor
open Go.RowKit Go.Dio
set_option linter.unusedVariables false
set_option linter.unusedSimpArgs false

@[reducible] def kd : OpD := ⟨4, 5, 2, 0, 0, ⟨#[]⟩, [], 0, 0, 0, ⟨#[]⟩, true⟩
theorem kd_right : oright kd = true := by decide
theorem kd_bytes : opB kd = [1, 4, 1, 5, 1, 2, 1, 1] := by decide +kernel
theorem kd_is (w : World) : OpIs w kd none 0 0 := ⟨⟨rfl, Nat.le_refl _, by omega, .inl rfl⟩, by decide, by decide⟩
theorem kd_read : tOp (opB kd, 0) = (kd, ([], 0)) := by
  have := tOp_opB kd [] kd_right
  rwa [List.append_nil] at this
set_option maxRecDepth 100000 in
set_option maxHeartbeats 4000000 in
theorem knows7_any (w : World) (hg : RootsAt w) : Calls Tryd.prog 11 #[] w fun e w' => e = .returned (.bool true) ∧ Below w.heap.size w w' := by
  have HB := Below.refl w.heap.size w
  refine frCall (args := []) (N := 41) Tryd.func11 rfl rfl rfl (fun a0 F0 => ?_)
  refine wp_seq ?_
  have RG := hg
  clear hg
  refine kGo ?_
  refine kMove F0 rfl rfl rfl rfl rfl (fun a1 F1 => ?_)
  clear F0 a0
  refine kFin rfl ?_
  refine frNext ?_
  refine wp_seq ?_
  refine kGo ?_
  refine kTake (v := stv 5 2) F1 rfl rfl rfl rfl ?y2 (fun a2 F2 => ?h2)
  case y2 =>
    skip
    go_simp; try with_reducible rfl
  clear F1 a1
  refine kTake (v := opv ⟨4, 5, 2, 0, 0, ⟨#[]⟩, [], 0, 0, 0, ⟨#[]⟩, true⟩ none 0 0) F2 rfl rfl rfl rfl ?y3 (fun a3 F3 => ?h3)
  case y3 =>
    have e5 := F2.ev 5 rfl; have g5 := F2.get 5 _ rfl
    go_simp; try with_reducible rfl
  clear F2 a2
  refine kVal (v := ?v4) (w' := w.alloc (oo ⟨0, 0, 0, 0, 0, ⟨#[]⟩, [], 0, 0, 0, ⟨#[]⟩, false⟩ none 0 0)) F3 rfl rfl rfl rfl ?y4 (fun a4 F4 => ?h4)
  case y4 =>
    skip
    go_simp
    all_goals (first | with_reducible rfl | (constructor <;> first | with_reducible rfl | rfl) | skip)
  clear F3 a3
  refine kStore (w' := w.alloc (oo ⟨4, 5, 2, 0, 0, ⟨#[]⟩, [], 0, 0, 0, ⟨#[]⟩, true⟩ none 0 0)) F4 rfl rfl rfl ?y5 (fun a5 F5 => ?h5)
  case y5 =>
    have e1 := F4.ev 1 rfl; have g1 := F4.get 1 _ rfl; have e6 := F4.ev 6 rfl; have g6 := F4.get 6 _ rfl
    go_simp; try with_reducible rfl
  clear F4 a4
  have F6 := F5.sub (l' := [(1, .pointer (some ⟨w.heap.size, 0, none⟩))]) ⟨rfl, trivial⟩
  clear F5
  have hb := below_alloc1 w (oo ⟨4, 5, 2, 0, 0, ⟨#[]⟩, [], 0, 0, 0, ⟨#[]⟩, true⟩ none 0 0)
  have OX := OAt.new w ⟨4, 5, 2, 0, 0, ⟨#[]⟩, [], 0, 0, 0, ⟨#[]⟩, true⟩ none 0 0 _ rfl
  replace RG := RG.below hb
  replace HB := below_then HB hb
  clear hb
  generalize w.alloc (oo ⟨4, 5, 2, 0, 0, ⟨#[]⟩, [], 0, 0, 0, ⟨#[]⟩, true⟩ none 0 0) = w1 at *
  refine kFin rfl ?_
  refine frNext ?_
  refine wp_seq ?_
  refine kGo ?_
  refine kTake (v := opv ⟨4, 5, 2, 0, 0, ⟨#[]⟩, [], 0, 0, 0, ⟨#[]⟩, true⟩ none 0 0) F6 rfl rfl rfl rfl ?y7 (fun a7 F7 => ?h7)
  case y7 =>
    have q := OX.cs; have y0 := q.c0; have y1 := q.c1; have y2 := q.c2; have y3 := q.c3; have y4 := q.c4; have y5 := q.c5; have y6 := q.c6; have y7 := q.c7; have y8 := q.c8; have y9 := q.c9; have y10 := q.c10; have y11 := q.c11; clear q; have e1 := F6.ev 1 rfl; have g1 := F6.get 1 _ rfl
    go_simp; try with_reducible rfl
  clear F6 a5
  refine kCall F7 rfl rfl rfl rfl (OPut_d kd none 0 0 _ (kd_is _) RG) ?y8 ?h8
  case y8 =>
    have e8 := F7.ev 8 rfl; have g8 := F7.get 8 _ rfl
    go_simp; try with_reducible rfl
  rintro e w2 ⟨hok, -⟩
  obtain ⟨v1, rfl, ho, hb⟩ := hok kd_right
  clear hok
  obtain ⟨Ab, nb, cb, rfl, hB, -⟩ := ho.form
  clear ho
  rw [kd_bytes] at hB
  have hBl := hB.len
  replace RG := RG.below hb
  replace OX := OX.below hb
  replace HB := below_then HB hb
  clear hb
  refine ⟨_, rfl, fun a8 F8 => ?_⟩
  clear F7 a7
  refine kMove F8 rfl rfl rfl rfl rfl (fun a9 F9 => ?_)
  clear F8 a8
  refine kMove F9 rfl rfl rfl rfl rfl (fun a10 F10 => ?_)
  clear F9 a9
  refine kMove F10 rfl rfl rfl rfl rfl (fun a11 F11 => ?_)
  clear F10 a10
  refine kMove F11 rfl rfl rfl rfl rfl (fun a12 F12 => ?_)
  clear F11 a11
  refine kMove F12 rfl rfl rfl rfl rfl (fun a13 F13 => ?_)
  clear F12 a12
  have F14 := F13.sub (l' := [(1, .pointer (some ⟨w.heap.size, 0, none⟩)), (2, .slice Ab nb cb), (3, .int .i64 0)]) ⟨rfl, rfl, rfl, trivial⟩
  clear F13
  refine kFin rfl ?_
  refine frNext ?_
  refine wp_seq ?_
  refine kGo ?_
  refine kMove F14 rfl rfl rfl rfl rfl (fun a15 F15 => ?_)
  clear F14 a13
  refine kCall F15 rfl rfl rfl rfl (Open_any Ab nb cb _ _ hB (by simp at hBl; omega)) ?y16 ?h16
  case y16 =>
    have e12 := F15.ev 12 rfl; have g12 := F15.get 12 _ rfl
    go_simp; try with_reducible rfl
  rintro e w3 ⟨rb, rfl, hR, hbO⟩
  refine ⟨_, rfl, fun a16 F16 => ?_⟩
  clear F15 a15
  have hc := OTake_d w2.heap.size rb ([1, 4, 1, 5, 1, 2, 1, 1], 0) _ hR (RG.below hbO) RG.two (by rw [← kd_bytes, kd_read]; exact ⟨by decide, by decide⟩)
  rw [← kd_bytes, kd_read] at hc
  dsimp only at hc
  refine kCall F16 rfl rfl rfl rfl (hc) ?y17 ?h17
  case y17 =>
    have e13 := F16.ev 13 rfl; have g13 := F16.get 13 _ rfl
    go_simp; try with_reducible rfl
  rintro e w4 ⟨Ay, ny, cy, rfl, hY, hYa, hR2, hg⟩
  have hb := hbO.grown hg hbO.size (fun q hq => by cases hq; exact hR.lo)
  clear hg hbO hR hR2 hYa
  replace RG := RG.below hb
  replace OX := OX.below hb
  replace hB := hB.below hb
  replace HB := below_then HB hb
  clear hb
  refine ⟨_, rfl, fun a17 F17 => ?_⟩
  clear F16 a16
  refine kVal (v := ?v18) (w' := w4.alloc (oo ⟨0, 0, 0, 0, 0, ⟨#[]⟩, [], 0, 0, 0, ⟨#[]⟩, false⟩ none 0 0)) F17 rfl rfl rfl rfl ?y18 (fun a18 F18 => ?h18)
  case y18 =>
    skip
    go_simp
    all_goals (first | with_reducible rfl | (constructor <;> first | with_reducible rfl | rfl) | skip)
  clear F17 a17
  refine kStore (w' := w4.alloc (oo ⟨4, 5, 2, 0, 0, ⟨#[]⟩, [], 0, 0, 0, ⟨#[]⟩, true⟩ Ay ny cy)) F18 rfl rfl rfl ?y19 (fun a19 F19 => ?h19)
  case y19 =>
    have e4 := F18.ev 4 rfl; have g4 := F18.get 4 _ rfl; have e14 := F18.ev 14 rfl; have g14 := F18.get 14 _ rfl
    go_simp; try with_reducible rfl
  clear F18 a18
  have F20 := F19.sub (l' := [(1, .pointer (some ⟨w.heap.size, 0, none⟩)), (2, .slice Ab nb cb), (3, .int .i64 0), (4, .pointer (some ⟨w4.heap.size, 0, none⟩))]) ⟨rfl, rfl, rfl, rfl, trivial⟩
  clear F19
  have hb := below_alloc1 w4 (oo ⟨4, 5, 2, 0, 0, ⟨#[]⟩, [], 0, 0, 0, ⟨#[]⟩, true⟩ Ay ny cy)
  have OY := OAt.new w4 ⟨4, 5, 2, 0, 0, ⟨#[]⟩, [], 0, 0, 0, ⟨#[]⟩, true⟩ Ay ny cy _ rfl
  replace RG := RG.below hb
  replace OX := OX.below hb
  replace hB := hB.below hb
  replace hY := hY.below hb
  replace HB := below_then HB hb
  clear hb
  generalize w4.alloc (oo ⟨4, 5, 2, 0, 0, ⟨#[]⟩, [], 0, 0, 0, ⟨#[]⟩, true⟩ Ay ny cy) = w5 at *
  refine kFin rfl ?_
  refine frNext ?_
  refine wp_seq ?_
  refine kGo ?_
  refine kMove F20 rfl rfl rfl rfl rfl (fun a21 F21 => ?_)
  clear F20 a19
  refine kCall F21 rfl rfl rfl rfl (num7_any 0 _) ?y22 ?h22
  case y22 =>
    have e15 := F21.ev 15 rfl; have g15 := F21.get 15 _ rfl
    go_simp; try with_reducible rfl
  rintro e wN ⟨rfl, rfl⟩
  refine ⟨_, rfl, fun a22 F22 => ?_⟩
  clear F21 a21
  refine kTake (v := .bool true) F22 rfl rfl rfl rfl ?y23 (fun a23 F23 => ?h23)
  case y23 =>
    have e16 := F22.ev 16 rfl; have g16 := F22.get 16 _ rfl
    go_simp; try with_reducible rfl
  clear F22 a22
  refine kMove F23 rfl rfl rfl rfl rfl (fun a24 F24 => ?_)
  clear F23 a23
  refine kMove F24 rfl rfl rfl rfl rfl (fun a25 F25 => ?_)
  clear F24 a24
  refine kTake (v := .string (mkS [1, 4, 1, 5, 1, 2, 1, 1])) F25 rfl rfl rfl rfl ?y26 (fun a26 F26 => ?h26)
  case y26 =>
    have hs := run_string (P := Tryd.prog) 31 9 5 Tryd.underlying31 Tryd.underlying5 Tryd.underlying9 hB; have e19 := F25.ev 19 rfl; have g19 := F25.get 19 _ rfl
    go_simp; try with_reducible rfl
  clear F25 a25
  refine kTake (v := .bool true) F26 rfl rfl rfl rfl ?y27 (fun a27 F27 => ?h27)
  case y27 =>
    have e20 := F26.ev 20 rfl; have g20 := F26.get 20 _ rfl
    go_simp
    rw [ByteArray.toList_eq, mkS_toList]
  clear F26 a26
  refine kMove F27 rfl rfl rfl rfl rfl (fun a28 F28 => ?_)
  clear F27 a27
  refine kMove F28 rfl rfl rfl rfl rfl (fun a29 F29 => ?_)
  clear F28 a28
  refine kTake (v := opv ⟨4, 5, 2, 0, 0, ⟨#[]⟩, [], 0, 0, 0, ⟨#[]⟩, true⟩ none 0 0) F29 rfl rfl rfl rfl ?y30 (fun a30 F30 => ?h30)
  case y30 =>
    have q := OX.cs; have y0 := q.c0; have y1 := q.c1; have y2 := q.c2; have y3 := q.c3; have y4 := q.c4; have y5 := q.c5; have y6 := q.c6; have y7 := q.c7; have y8 := q.c8; have y9 := q.c9; have y10 := q.c10; have y11 := q.c11; clear q; have e1 := F29.ev 1 rfl; have g1 := F29.get 1 _ rfl
    go_simp; try with_reducible rfl
  clear F29 a29
  refine kTake (v := opv ⟨4, 5, 2, 0, 0, ⟨#[]⟩, [], 0, 0, 0, ⟨#[]⟩, true⟩ Ay ny cy) F30 rfl rfl rfl rfl ?y31 (fun a31 F31 => ?h31)
  case y31 =>
    have q := OY.cs; have y0 := q.c0; have y1 := q.c1; have y2 := q.c2; have y3 := q.c3; have y4 := q.c4; have y5 := q.c5; have y6 := q.c6; have y7 := q.c7; have y8 := q.c8; have y9 := q.c9; have y10 := q.c10; have y11 := q.c11; clear q; have e4 := F30.ev 4 rfl; have g4 := F30.get 4 _ rfl
    go_simp; try with_reducible rfl
  clear F30 a30
  refine kCall F31 rfl rfl rfl rfl (OSame_d kd kd none 0 0 Ay ny cy _ (kd_is _) hY) ?y32 ?h32
  case y32 =>
    have e24 := F31.ev 24 rfl; have g24 := F31.get 24 _ rfl; have e25 := F31.ev 25 rfl; have g25 := F31.get 25 _ rfl
    go_simp; try with_reducible rfl
  rw [osame_refl]
  rintro e wN ⟨rfl, hb⟩
  replace RG := RG.below hb
  replace OX := OX.below hb
  replace hB := hB.below hb
  replace hY := hY.below hb
  replace OY := OY.below hb
  replace HB := below_then HB hb
  clear hb
  refine ⟨_, rfl, fun a32 F32 => ?_⟩
  clear F31 a31
  refine kMove F32 rfl rfl rfl rfl rfl (fun a33 F33 => ?_)
  clear F32 a32
  refine kMove F33 rfl rfl rfl rfl rfl (fun a34 F34 => ?_)
  clear F33 a33
  refine kTake (v := ?v35) F34 rfl rfl rfl rfl ?y35 (fun a35 F35 => ?h35)
  case y35 =>
    have e4 := F34.ev 4 rfl; have g4 := F34.get 4 _ rfl
    go_simp; try with_reducible rfl
  clear F34 a34
  refine kTake (v := ?v36) F35 rfl rfl rfl rfl ?y36 (fun a36 F36 => ?h36)
  case y36 =>
    have q := OY.cs; have y0 := q.c0; have y1 := q.c1; have y2 := q.c2; have y3 := q.c3; have y4 := q.c4; have y5 := q.c5; have y6 := q.c6; have y7 := q.c7; have y8 := q.c8; have y9 := q.c9; have y10 := q.c10; have y11 := q.c11; clear q; have e29 := F35.ev 29 rfl; have g29 := F35.get 29 _ rfl
    go_simp; try with_reducible rfl
  clear F35 a35
  refine kMove F36 rfl rfl rfl rfl rfl (fun a37 F37 => ?_)
  clear F36 a36
  refine kMove F37 rfl rfl rfl rfl rfl (fun a38 F38 => ?_)
  clear F37 a37
  refine kTake (v := ?v39) F38 rfl rfl rfl rfl ?y39 (fun a39 F39 => ?h39)
  case y39 =>
    have e1 := F38.ev 1 rfl; have g1 := F38.get 1 _ rfl
    go_simp; try with_reducible rfl
  clear F38 a38
  refine kTake (v := stv 5 2) F39 rfl rfl rfl rfl ?y40 (fun a40 F40 => ?h40)
  case y40 =>
    have q := OX.cs; have y0 := q.c0; have y1 := q.c1; have y2 := q.c2; have y3 := q.c3; have y4 := q.c4; have y5 := q.c5; have y6 := q.c6; have y7 := q.c7; have y8 := q.c8; have y9 := q.c9; have y10 := q.c10; have y11 := q.c11; clear q; have e33 := F39.ev 33 rfl; have g33 := F39.get 33 _ rfl
    go_simp; try with_reducible rfl
  clear F39 a39
  refine kCall F40 rfl rfl rfl rfl (Node_any 5 2 _) ?y41 ?h41
  case y41 =>
    have e34 := F40.ev 34 rfl; have g34 := F40.get 34 _ rfl
    go_simp; try with_reducible rfl
  rw [show sNode 5 2 = true by decide]
  rintro e wN ⟨rfl, hb⟩
  replace RG := RG.below hb
  replace OX := OX.below hb
  replace hB := hB.below hb
  replace hY := hY.below hb
  replace OY := OY.below hb
  replace HB := below_then HB hb
  clear hb
  refine ⟨_, rfl, fun a41 F41 => ?_⟩
  clear F40 a40
  refine kMove F41 rfl rfl rfl rfl rfl (fun a42 F42 => ?_)
  clear F41 a41
  refine kMove F42 rfl rfl rfl rfl rfl (fun a43 F43 => ?_)
  clear F42 a42
  refine kTake (v := stv 0 0) F43 rfl rfl rfl rfl ?y44 (fun a44 F44 => ?h44)
  case y44 =>
    skip
    go_simp; try with_reducible rfl
  clear F43 a43
  refine kCall F44 rfl rfl rfl rfl (Place_any 0 0 _ RG) ?y45 ?h45
  case y45 =>
    have e38 := F44.ev 38 rfl; have g38 := F44.get 38 _ rfl
    go_simp; try with_reducible rfl
  rw [show sPlace 0 0 = true by decide]
  rintro e wN ⟨rfl, hb⟩
  replace RG := RG.below hb
  replace OX := OX.below hb
  replace hB := hB.below hb
  replace hY := hY.below hb
  replace OY := OY.below hb
  replace HB := below_then HB hb
  clear hb
  refine ⟨_, rfl, fun a45 F45 => ?_⟩
  clear F44 a44
  refine kMove F45 rfl rfl rfl rfl rfl (fun a46 F46 => ?_)
  clear F45 a45
  refine kMove F46 rfl rfl rfl rfl rfl (fun a47 F47 => ?_)
  clear F46 a46
  have F48 := F47.sub (l' := [(0, .bool true)]) ⟨rfl, trivial⟩
  clear F47
  refine kFin rfl ?_
  refine frNext ?_
  refine wp_ret ?_
  exact frRet1 rfl F48 rfl ⟨rfl, HB⟩
end Go.Proofs.YtnakanophilfhaaDoor
