/- LawBB ShB RwBB in one. -/
import Derived.Test.YtnakanophilfhaaDoorBzO
import Derived.Test.YtnakanophilfhaaDoorFrB
import Derived.Test.YtnakanophilfhaaDoorShO
import Derived.Test.YtnakanophilfhaaDoorBzM
/- LawBB: BatchBack: a batch that may be is read as it was written, framed or not, with anything behind it. -/
namespace Go.Proofs.YtnakanophilfhaaDoor
open Go.RowKit Go.Dio
set_option linter.unusedVariables false
set_option linter.unusedSimpArgs false

theorem own_some {e : TypeId} {w : World} {base : Nat} {v : Value} {xs : List UInt8} (h : OwnB e w base v xs) (hx : 0 < xs.length) : v ≠ .slice none 0 0 := fun e => by
  rcases h.2 with ⟨_, h0⟩ | ⟨g, cap, cur, e2, _⟩
  · omega
  · rw [e] at e2; cases e2
theorem btB_pos (b : BtD) : 0 < (btB b).length := by
  have := numB_pos b.rep.toNat
  simp only [btB, List.length_append]
  omega
theorem frameB_pos (xs : List UInt8) : 0 < (frameB xs).length := by rw [frameB_len]; omega
theorem frame_le {b : BtD} (h : bright b = true) : (frameB (btB b)).length ≤ 50000 := by
  have := btB_le h
  have l := numB_le (btB b).length (by omega)
  rw [frameB_len]
  omega
set_option maxRecDepth 100000 in
set_option maxHeartbeats 4000000 in
theorem BatchBack_walk (b : BtD) (A : Option Addr) (n c : Nat) (l : List OpV) (M : Option Addr) (p q : Nat) (more : List UInt8) (w : World) (h : BtIs w b A n c l) (hm : IsB w M p q more) (hpb : p ≤ 140737488351232) (hg : RootsAt w) : Calls Tryd.prog 7 #[btv b.rep b.seq b.time A n c, .slice M p q] w fun e w' => e = .returned (.bool true) ∧ Below w.heap.size w w' := by
  have HB := Below.refl w.heap.size w
  have RG := hg
  have D := h
  clear h hg
  have hcap := D.ops.cap
  have hmax := D.ops.max
  have hml := hm.len
  have hmc := hm.cap
  have hmm := hm.max
  refine frCall (args := [btv b.rep b.seq b.time A n c, .slice M p q]) (N := 95) Tryd.func7 rfl rfl rfl (fun a0 F0 => ?_)
  refine wp_seq ?_
  refine kGo ?_
  refine kVal (v := ?v1) (w' := w.alloc (.cells (bxs b.rep b.seq b.time A n c) 60)) F0 rfl rfl rfl rfl ?y1 (fun a1 F1 => ?h1)
  case y1 =>
    have e0 := F0.ev 0 rfl; have g0 := F0.get 0 _ rfl
    go_simp
    all_goals (first | with_reducible rfl | (constructor <;> first | with_reducible rfl | rfl) | skip)
  clear F0 a0
  refine kMove F1 rfl rfl rfl rfl rfl (fun a2 F2 => ?_)
  clear F1 a1
  have F3 := F2.sub (l' := [(2, .pointer (some ⟨w.heap.size, 0, none⟩)), (1, .slice M p q)]) ⟨rfl, rfl, trivial⟩
  clear F2
  have hb := below_alloc1 w (.cells (bxs b.rep b.seq b.time A n c) 60)
  have OX : BCells (w.alloc (.cells (bxs b.rep b.seq b.time A n c) 60)) w.heap.size b.rep b.seq b.time A n c := ⟨cell_of (new_at w (.cells (bxs b.rep b.seq b.time A n c) 60)) 0 rfl, cell_of (new_at w (.cells (bxs b.rep b.seq b.time A n c) 60)) 1 rfl, cell_of (new_at w (.cells (bxs b.rep b.seq b.time A n c) 60)) 2 rfl, cell_of (new_at w (.cells (bxs b.rep b.seq b.time A n c) 60)) 3 rfl⟩
  replace RG := RG.below hb
  replace D := D.below hb
  replace hm := hm.below hb
  replace HB := below_then HB hb
  clear hb
  generalize w.alloc (.cells (bxs b.rep b.seq b.time A n c) 60) = w1 at *
  refine kFin rfl ?_
  refine frNext ?_
  refine wp_seq ?_
  refine wp_seq ?_
  refine kGo ?_
  refine kTake (v := btv b.rep b.seq b.time A n c) F3 rfl rfl rfl rfl ?y4 (fun a4 F4 => ?h4)
  case y4 =>
    have y0 := OX.c0; have y1 := OX.c1; have y2 := OX.c2; have y3 := OX.c3; have e2 := F3.ev 2 rfl; have g2 := F3.get 2 _ rfl
    go_simp; try with_reducible rfl
  clear F3 a2
  refine kCall F4 rfl rfl rfl rfl (Light8_any b.rep b.seq b.time A n c l _ D.ops) ?y5 ?h5
  case y5 =>
    have e15 := F4.ev 15 rfl; have g15 := F4.get 15 _ rfl
    go_simp; try with_reducible rfl
  rintro e w2 ⟨r, rfl, hr, hb⟩
  have HR := hid hr
  clear hr
  replace RG := RG.below hb
  replace D := D.below hb
  replace hm := hm.below hb
  replace OX := OX.below hb
  replace HB := below_then HB hb
  clear hb
  rcases r with _ | _
  
  · skip
    refine ⟨_, rfl, fun a5 F5 => ?_⟩
    clear F4 a4
    refine kMove F5 rfl rfl rfl rfl rfl (fun a6 F6 => ?_)
    clear F5 a5
    refine kFin rfl ?_
    refine frNext ?_
    refine frCond (b := true) F6 rfl ?_
    simp only [if_true]
    refine wp_seq ?_
    refine kGo ?_
    refine kCall F6 rfl rfl rfl rfl (knows8_any _ RG) ?y7 ?h7
    case y7 =>
      skip
      go_simp; try with_reducible rfl
    rintro e w3 ⟨rfl, hb⟩
    replace RG := RG.below hb
    replace D := D.below hb
    replace hm := hm.below hb
    replace OX := OX.below hb
    replace HB := below_then HB hb
    clear hb
    refine ⟨_, rfl, fun a7 F7 => ?_⟩
    clear F6 a6
    refine kMove F7 rfl rfl rfl rfl rfl (fun a8 F8 => ?_)
    clear F7 a7
    refine kFin rfl ?_
    refine frNext ?_
    refine wp_ret ?_
    refine frThenRet ?_
    exact frRet1 rfl F8 rfl ⟨rfl, HB⟩
  refine ⟨_, rfl, fun a5 F5 => ?_⟩
  clear F4 a4
  obtain ⟨hn70, hp500⟩ := HR.out rfl
  clear HR
  have HP5 := hid hp500
  clear hp500
  refine kMove F5 rfl rfl rfl rfl rfl (fun a9 F9 => ?_)
  clear F5 a5
  refine kFin rfl ?_
  refine frNext ?_
  refine frCond (b := false) F9 rfl ?_
  simp only [Bool.false_eq_true, if_false]
  refine wp_skip ?_
  refine frNext ?_
  refine wp_seq ?_
  have F10 := F9.sub (l' := [(2, .pointer (some ⟨w.heap.size, 0, none⟩)), (1, .slice M p q)]) ⟨rfl, rfl, trivial⟩
  clear F9
  refine kGo ?_
  refine kTake (v := btv b.rep b.seq b.time A n c) F10 rfl rfl rfl rfl ?y11 (fun a11 F11 => ?h11)
  case y11 =>
    have y0 := OX.c0; have y1 := OX.c1; have y2 := OX.c2; have y3 := OX.c3; have e2 := F10.ev 2 rfl; have g2 := F10.get 2 _ rfl
    go_simp; try with_reducible rfl
  clear F10 a9
  refine kCall F11 rfl rfl rfl rfl (Own8_any b A n c l _ D hn70 HP5.out) ?y12 ?h12
  case y12 =>
    have e19 := F11.ev 19 rfl; have g19 := F11.get 19 _ rfl
    go_simp; try with_reducible rfl
  rintro e w3 ⟨A2, c2, l2, rfl, E, hb⟩
  replace RG := RG.below hb
  replace D := D.below hb
  replace hm := hm.below hb
  replace OX := OX.below hb
  replace HB := below_then HB hb
  clear hb
  refine ⟨_, rfl, fun a12 F12 => ?_⟩
  clear F11 a11
  refine kVal (v := ?v13) (w' := w3.alloc (bto 0 0 0 none 0 0)) F12 rfl rfl rfl rfl ?y13 (fun a13 F13 => ?h13)
  case y13 =>
    skip
    go_simp
    all_goals (first | with_reducible rfl | (constructor <;> first | with_reducible rfl | rfl) | skip)
  clear F12 a12
  refine kStore (w' := w3.alloc (bto b.rep b.seq b.time A2 n c2)) F13 rfl rfl rfl ?y14 (fun a14 F14 => ?h14)
  case y14 =>
    have e5 := F13.ev 5 rfl; have g5 := F13.get 5 _ rfl; have e20 := F13.ev 20 rfl; have g20 := F13.get 20 _ rfl
    go_simp; try with_reducible rfl
  clear F13 a13
  have F15 := F14.sub (l' := [(1, .slice M p q), (5, .pointer (some ⟨w3.heap.size, 0, none⟩))]) ⟨rfl, rfl, trivial⟩
  clear F14
  have hb := below_alloc1 w3 (bto b.rep b.seq b.time A2 n c2)
  have OO := BAt.new w3 b.rep b.seq b.time A2 n c2 _ rfl
  replace RG := RG.below hb
  replace D := D.below hb
  replace hm := hm.below hb
  replace OX := OX.below hb
  replace E := E.below hb
  replace HB := below_then HB hb
  clear hb
  generalize hx3 : w3.heap.size = OB at *
  clear hx3
  generalize w3.alloc (bto b.rep b.seq b.time A2 n c2) = w4 at *
  clear OX D hcap hmax
  refine kFin rfl ?_
  refine frNext ?_
  refine wp_seq ?_
  refine kGo ?_
  refine kTake (v := btv b.rep b.seq b.time A2 n c2) F15 rfl rfl rfl rfl ?y16 (fun a16 F16 => ?h16)
  case y16 =>
    have q := OO.cs; have y0 := q.c0; have y1 := q.c1; have y2 := q.c2; have y3 := q.c3; clear q; have e5 := F15.ev 5 rfl; have g5 := F15.get 5 _ rfl
    go_simp; try with_reducible rfl
  clear F15 a14
  rcases hbr : bright b with _ | _
  · skip
    refine kCall F16 rfl rfl rfl rfl (BPut_any b A2 n c2 l2 _ E RG) ?y17 ?h17
    case y17 =>
      have e22 := F16.ev 22 rfl; have g22 := F16.get 22 _ rfl
      go_simp; try with_reducible rfl
    rintro e w5 ⟨-, hno⟩
    obtain ⟨rfl, hb⟩ := hno hbr
    clear hno
    replace RG := RG.below hb
    replace hm := hm.below hb
    replace E := E.below hb
    replace OO := OO.below hb
    replace HB := below_then HB hb
    clear hb
    refine ⟨_, rfl, fun a17 F17 => ?_⟩
    clear F16 a16
    refine kMove F17 rfl rfl rfl rfl rfl (fun a18 F18 => ?_)
    clear F17 a17
    refine kMove F18 rfl rfl rfl rfl rfl (fun a19 F19 => ?_)
    clear F18 a18
    refine kMove F19 rfl rfl rfl rfl rfl (fun a20 F20 => ?_)
    clear F19 a19
    refine kMove F20 rfl rfl rfl rfl rfl (fun a21 F21 => ?_)
    clear F20 a20
    refine kMove F21 rfl rfl rfl rfl rfl (fun a22 F22 => ?_)
    clear F21 a21
    have F23 := F22.sub (l' := [(5, .pointer (some ⟨OB, 0, none⟩)), (7, .int .i64 1)]) ⟨rfl, rfl, trivial⟩
    clear F22
    refine kFin rfl ?_
    refine frNext ?_
    refine wp_seq ?_
    refine kGo ?_
    refine kTake (v := btv b.rep b.seq b.time A2 n c2) F23 rfl rfl rfl rfl ?y24 (fun a24 F24 => ?h24)
    case y24 =>
      have q := OO.cs; have y0 := q.c0; have y1 := q.c1; have y2 := q.c2; have y3 := q.c3; clear q; have e5 := F23.ev 5 rfl; have g5 := F23.get 5 _ rfl
      go_simp; try with_reducible rfl
    clear F23 a22
    refine kCall F24 rfl rfl rfl rfl (BFrame_any b A2 n c2 l2 _ E RG) ?y25 ?h25
    case y25 =>
      have e27 := F24.ev 27 rfl; have g27 := F24.get 27 _ rfl
      go_simp; try with_reducible rfl
    rintro e w6 ⟨-, hno⟩
    obtain ⟨rfl, hb⟩ := hno hbr
    clear hno
    replace RG := RG.below hb
    replace hm := hm.below hb
    replace E := E.below hb
    replace OO := OO.below hb
    replace HB := below_then HB hb
    clear hb
    refine ⟨_, rfl, fun a25 F25 => ?_⟩
    clear F24 a24
    refine kMove F25 rfl rfl rfl rfl rfl (fun a26 F26 => ?_)
    clear F25 a25
    refine kMove F26 rfl rfl rfl rfl rfl (fun a27 F27 => ?_)
    clear F26 a26
    refine kMove F27 rfl rfl rfl rfl rfl (fun a28 F28 => ?_)
    clear F27 a27
    refine kMove F28 rfl rfl rfl rfl rfl (fun a29 F29 => ?_)
    clear F28 a28
    refine kMove F29 rfl rfl rfl rfl rfl (fun a30 F30 => ?_)
    clear F29 a29
    have F31 := F30.sub (l' := [(5, .pointer (some ⟨OB, 0, none⟩)), (7, .int .i64 1), (9, .int .i64 1)]) ⟨rfl, rfl, rfl, trivial⟩
    clear F30
    refine kFin rfl ?_
    refine frNext ?_
    refine wp_seq ?_
    refine wp_seq ?_
    refine kGo ?_
    refine kMove F31 rfl rfl rfl rfl rfl (fun a32 F32 => ?_)
    clear F31 a30
    refine kCall F32 rfl rfl rfl rfl (num8_any 1 _) ?y33 ?h33
    case y33 =>
      have e31 := F32.ev 31 rfl; have g31 := F32.get 31 _ rfl
      go_simp; try with_reducible rfl
    rintro e wN ⟨rfl, rfl⟩
    refine ⟨_, rfl, fun a33 F33 => ?_⟩
    clear F32 a32
    refine kTake (v := .bool true) F33 rfl rfl rfl rfl ?y34 (fun a34 F34 => ?h34)
    case y34 =>
      have e32 := F33.ev 32 rfl; have g32 := F33.get 32 _ rfl
      go_simp; try with_reducible rfl
    clear F33 a33
    refine kFin rfl ?_
    refine frNext ?_
    refine frCond (b := true) F34 rfl ?_
    simp only [if_true]
    refine wp_seq ?_
    refine kGo ?_
    refine kTake (v := btv b.rep b.seq b.time A2 n c2) F34 rfl rfl rfl rfl ?y35 (fun a35 F35 => ?h35)
    case y35 =>
      have q := OO.cs; have y0 := q.c0; have y1 := q.c1; have y2 := q.c2; have y3 := q.c3; clear q; have e5 := F34.ev 5 rfl; have g5 := F34.get 5 _ rfl
      go_simp; try with_reducible rfl
    clear F34 a34
    refine kCall F35 rfl rfl rfl rfl (BRight_any b A2 n c2 l2 _ E RG) ?y36 ?h36
    case y36 =>
      have e34 := F35.ev 34 rfl; have g34 := F35.get 34 _ rfl
      go_simp; try with_reducible rfl
    rw [hbr]
    rintro e w7 ⟨rfl, hb⟩
    replace RG := RG.below hb
    replace hm := hm.below hb
    replace E := E.below hb
    replace OO := OO.below hb
    replace HB := below_then HB hb
    clear hb
    refine ⟨_, rfl, fun a36 F36 => ?_⟩
    clear F35 a35
    refine kMove F36 rfl rfl rfl rfl rfl (fun a37 F37 => ?_)
    clear F36 a36
    refine kMove F37 rfl rfl rfl rfl rfl (fun a38 F38 => ?_)
    clear F37 a37
    refine kMove F38 rfl rfl rfl rfl rfl (fun a39 F39 => ?_)
    clear F38 a38
    refine kCall F39 rfl rfl rfl rfl (num8_any 1 _) ?y40 ?h40
    case y40 =>
      have e38 := F39.ev 38 rfl; have g38 := F39.get 38 _ rfl
      go_simp; try with_reducible rfl
    rintro e wN ⟨rfl, rfl⟩
    refine ⟨_, rfl, fun a40 F40 => ?_⟩
    clear F39 a39
    refine kTake (v := .bool true) F40 rfl rfl rfl rfl ?y41 (fun a41 F41 => ?h41)
    case y41 =>
      have e39 := F40.ev 39 rfl; have g39 := F40.get 39 _ rfl
      go_simp; try with_reducible rfl
    clear F40 a40
    refine kMove F41 rfl rfl rfl rfl rfl (fun a42 F42 => ?_)
    clear F41 a41
    refine kMove F42 rfl rfl rfl rfl rfl (fun a43 F43 => ?_)
    clear F42 a42
    refine kCall F43 rfl rfl rfl rfl (knows8_any _ RG) ?y44 ?h44
    case y44 =>
      skip
      go_simp; try with_reducible rfl
    rintro e w8 ⟨rfl, hb⟩
    replace RG := RG.below hb
    replace hm := hm.below hb
    replace E := E.below hb
    replace OO := OO.below hb
    replace HB := below_then HB hb
    clear hb
    refine ⟨_, rfl, fun a44 F44 => ?_⟩
    clear F43 a43
    refine kMove F44 rfl rfl rfl rfl rfl (fun a45 F45 => ?_)
    clear F44 a44
    refine kMove F45 rfl rfl rfl rfl rfl (fun a46 F46 => ?_)
    clear F45 a45
    refine kFin rfl ?_
    refine frNext ?_
    refine wp_ret ?_
    refine frThenRet ?_
    exact frRet1 rfl F46 rfl ⟨rfl, HB⟩
  refine kCall F16 rfl rfl rfl rfl (BPut_any b A2 n c2 l2 _ E RG) ?y47 ?h47
  case y47 =>
    have e22 := F16.ev 22 rfl; have g22 := F16.get 22 _ rfl
    go_simp; try with_reducible rfl
  rintro e w5 ⟨hok, -⟩
  obtain ⟨v1, rfl, ho, hb⟩ := hok hbr
  clear hok
  obtain ⟨Ab, nb, cb, rfl, hB, -⟩ := ho.form
  clear ho
  have hBl := hB.len
  replace RG := RG.below hb
  replace hm := hm.below hb
  replace E := E.below hb
  replace OO := OO.below hb
  replace HB := below_then HB hb
  clear hb
  refine ⟨_, rfl, fun a47 F47 => ?_⟩
  clear F16 a16
  refine kMove F47 rfl rfl rfl rfl rfl (fun a48 F48 => ?_)
  clear F47 a47
  refine kMove F48 rfl rfl rfl rfl rfl (fun a49 F49 => ?_)
  clear F48 a48
  refine kMove F49 rfl rfl rfl rfl rfl (fun a50 F50 => ?_)
  clear F49 a49
  refine kMove F50 rfl rfl rfl rfl rfl (fun a51 F51 => ?_)
  clear F50 a50
  refine kMove F51 rfl rfl rfl rfl rfl (fun a52 F52 => ?_)
  clear F51 a51
  have F53 := F52.sub (l' := [(5, .pointer (some ⟨OB, 0, none⟩)), (1, .slice M p q), (6, .slice Ab nb cb), (7, .int .i64 0)]) ⟨rfl, rfl, rfl, rfl, trivial⟩
  clear F52
  refine kFin rfl ?_
  refine frNext ?_
  refine wp_seq ?_
  refine kGo ?_
  refine kTake (v := btv b.rep b.seq b.time A2 n c2) F53 rfl rfl rfl rfl ?y54 (fun a54 F54 => ?h54)
  case y54 =>
    have q := OO.cs; have y0 := q.c0; have y1 := q.c1; have y2 := q.c2; have y3 := q.c3; clear q; have e5 := F53.ev 5 rfl; have g5 := F53.get 5 _ rfl
    go_simp; try with_reducible rfl
  clear F53 a52
  refine kCall F54 rfl rfl rfl rfl (BFrame_any b A2 n c2 l2 _ E RG) ?y55 ?h55
  case y55 =>
    have e27 := F54.ev 27 rfl; have g27 := F54.get 27 _ rfl
    go_simp; try with_reducible rfl
  rintro e w6 ⟨hok, -⟩
  obtain ⟨v1, rfl, ho, hb⟩ := hok hbr
  clear hok
  obtain ⟨Af, nf, cf, rfl, hF, -⟩ := ho.form
  clear ho
  have hFl := hF.len
  replace RG := RG.below hb
  replace hm := hm.below hb
  replace E := E.below hb
  replace OO := OO.below hb
  replace hB := hB.below hb
  replace HB := below_then HB hb
  clear hb
  refine ⟨_, rfl, fun a55 F55 => ?_⟩
  clear F54 a54
  refine kMove F55 rfl rfl rfl rfl rfl (fun a56 F56 => ?_)
  clear F55 a55
  refine kMove F56 rfl rfl rfl rfl rfl (fun a57 F57 => ?_)
  clear F56 a56
  refine kMove F57 rfl rfl rfl rfl rfl (fun a58 F58 => ?_)
  clear F57 a57
  refine kMove F58 rfl rfl rfl rfl rfl (fun a59 F59 => ?_)
  clear F58 a58
  refine kMove F59 rfl rfl rfl rfl rfl (fun a60 F60 => ?_)
  clear F59 a59
  have F61 := F60.sub (l' := [(5, .pointer (some ⟨OB, 0, none⟩)), (1, .slice M p q), (6, .slice Ab nb cb), (7, .int .i64 0), (8, .slice Af nf cf), (9, .int .i64 0)]) ⟨rfl, rfl, rfl, rfl, rfl, rfl, trivial⟩
  clear F60
  refine kFin rfl ?_
  refine frNext ?_
  refine wp_seq ?_
  refine wp_seq ?_
  refine kGo ?_
  refine kMove F61 rfl rfl rfl rfl rfl (fun a62 F62 => ?_)
  clear F61 a60
  refine kCall F62 rfl rfl rfl rfl (num8_any 0 _) ?y63 ?h63
  case y63 =>
    have e31 := F62.ev 31 rfl; have g31 := F62.get 31 _ rfl
    go_simp; try with_reducible rfl
  rintro e wN ⟨rfl, rfl⟩
  refine ⟨_, rfl, fun a63 F63 => ?_⟩
  clear F62 a62
  refine kTake (v := .bool false) F63 rfl rfl rfl rfl ?y64 (fun a64 F64 => ?h64)
  case y64 =>
    have e32 := F63.ev 32 rfl; have g32 := F63.get 32 _ rfl
    go_simp; try with_reducible rfl
  clear F63 a63
  refine kFin rfl ?_
  refine frNext ?_
  refine frCond (b := false) F64 rfl ?_
  simp only [Bool.false_eq_true, if_false]
  refine wp_skip ?_
  refine frNext ?_
  refine wp_seq ?_
  have F65 := F64.sub (l' := [(5, .pointer (some ⟨OB, 0, none⟩)), (1, .slice M p q), (6, .slice Ab nb cb), (7, .int .i64 0), (8, .slice Af nf cf), (9, .int .i64 0)]) ⟨rfl, rfl, rfl, rfl, rfl, rfl, trivial⟩
  clear F64
  have hbb := btB_le hbr
  have hbp := btB_pos b
  have hff := frame_le hbr
  have hfp := frameB_pos (btB b)
  have HT := hid (tBt_btB b more hbr)
  have HU := hid (unfB_frame b more hbr)
  have HBR := hid hbr
  clear hbr
  generalize btB b = bs at *
  generalize frameB bs = fs at *
  refine kGo ?_
  refine kVal (v := ?v66) (w' := w6.alloc (.cells #[] 5)) F65 rfl rfl rfl rfl ?y66 (fun a66 F66 => ?h66)
  case y66 =>
    skip
    go_simp
    all_goals (first | with_reducible rfl | (constructor <;> first | with_reducible rfl | rfl) | skip)
  clear F65 a64
  have HS := below_alloc1 w6 (.cells #[] 5)
  have HO : OwnB 5 (w6.alloc (.cells #[] 5)) w6.heap.size (.slice (some ⟨w6.heap.size, 0, none⟩) 0 0) [] := OwnB.lit 5 w6 w6.heap.size [] (Nat.le_refl _) (by simp)
  generalize w6.alloc (.cells #[] 5) = w6a at *
  refine kMove F66 rfl rfl rfl rfl rfl (fun a67 F67 => ?_)
  clear F66 a66
  refine kAppB (w0 := w6) w6.heap.size F67 rfl rfl rfl rfl (t := 31) (e := 5) rfl Tryd.underlying31 info_u8 rfl rfl HO (hB.below HS) HS HS.size ?c68 ?h68
  case c68 => simp only [List.length_append, List.length_nil]; omega
  clear HO HS
  intro va68 wa68 HO HS hg a68 F68
  clear F67 a67 hg
  rw [List.nil_append] at HO
  refine kMove F68 rfl rfl rfl rfl rfl (fun a69 F69 => ?_)
  clear F68 a68
  refine kAppBig (w0 := w6) w6.heap.size F69 rfl rfl rfl rfl (t := 31) (e := 5) rfl Tryd.underlying31 info_u8 rfl rfl HO (own_some HO hbp) (by omega) (hm.below HS) HS HS.size (by omega) ?h70
  clear HO HS
  intro vz70 wz HO HS a70 F70
  clear F69 a69
  obtain ⟨Ag, ng, cg, rfl, hG, -⟩ := HO.form
  clear HO
  have hGl := hG.len
  rw [List.length_append] at hGl
  refine kCall F70 rfl rfl rfl rfl (Open_big Ag ng cg (bs ++ more) _ hG (by omega)) ?y71 ?h71
  case y71 =>
    have e49 := F70.ev 49 rfl; have g49 := F70.get 49 _ rfl
    go_simp; try with_reducible rfl
  rintro e w7 ⟨rb, rfl, hR, hbO⟩
  have hrb := hR.lo
  have hzs := HS.size
  replace hbO : Below w6.heap.size w6 w7 := below_then HS hbO
  clear HS hG
  refine ⟨_, rfl, fun a71 F71 => ?_⟩
  clear F70 a70
  refine kMove F71 rfl rfl rfl rfl rfl (fun a72 F72 => ?_)
  clear F71 a71
  have F73 := F72.sub (l' := [(5, .pointer (some ⟨OB, 0, none⟩)), (1, .slice M p q), (6, .slice Ab nb cb), (7, .int .i64 0), (8, .slice Af nf cf), (9, .int .i64 0), (10, .pointer (some ⟨rb, 0, none⟩))]) ⟨rfl, rfl, rfl, rfl, rfl, rfl, rfl, trivial⟩
  clear F72
  refine kFin rfl ?_
  refine frNext ?_
  refine wp_seq ?_
  refine kGo ?_
  refine kMove F73 rfl rfl rfl rfl rfl (fun a74 F74 => ?_)
  clear F73 a72
  have hc := BTake_any wz.heap.size rb (bs ++ more, 0) _ hR (RG.below hbO) (by have := RG.two; omega)
  rw [HT.out] at hc
  dsimp only at hc
  refine kCall F74 rfl rfl rfl rfl (hc) ?y75 ?h75
  case y75 =>
    have e51 := F74.ev 51 rfl; have g51 := F74.get 51 _ rfl
    go_simp; try with_reducible rfl
  rintro e w8 ⟨Ay, ny, cy, ly, rfl, DY, hR4, hg4, -, -⟩
  have hb := hbO.grown hg4 hbO.size (fun q hq => by cases hq; omega)
  clear hg4 hbO hR hc hzs hrb
  replace RG := RG.below hb
  replace hm := hm.below hb
  replace E := E.below hb
  replace OO := OO.below hb
  replace hB := hB.below hb
  replace hF := hF.below hb
  replace HB := below_then HB hb
  clear hb
  refine ⟨_, rfl, fun a75 F75 => ?_⟩
  clear F74 a74
  refine kVal (v := ?v76) (w' := w8.alloc (bto 0 0 0 none 0 0)) F75 rfl rfl rfl rfl ?y76 (fun a76 F76 => ?h76)
  case y76 =>
    skip
    go_simp
    all_goals (first | with_reducible rfl | (constructor <;> first | with_reducible rfl | rfl) | skip)
  clear F75 a75
  refine kStore (w' := w8.alloc (bto b.rep b.seq b.time Ay ny cy)) F76 rfl rfl rfl ?y77 (fun a77 F77 => ?h77)
  case y77 =>
    have e11 := F76.ev 11 rfl; have g11 := F76.get 11 _ rfl; have e52 := F76.ev 52 rfl; have g52 := F76.get 52 _ rfl
    go_simp; try with_reducible rfl
  clear F76 a76
  have F78 := F77.sub (l' := [(5, .pointer (some ⟨OB, 0, none⟩)), (1, .slice M p q), (6, .slice Ab nb cb), (7, .int .i64 0), (8, .slice Af nf cf), (9, .int .i64 0), (10, .pointer (some ⟨rb, 0, none⟩)), (11, .pointer (some ⟨w8.heap.size, 0, none⟩))]) ⟨rfl, rfl, rfl, rfl, rfl, rfl, rfl, rfl, trivial⟩
  clear F77
  have hb := below_alloc1 w8 (bto b.rep b.seq b.time Ay ny cy)
  have OY := BAt.new w8 b.rep b.seq b.time Ay ny cy _ rfl
  replace RG := RG.below hb
  replace hm := hm.below hb
  replace E := E.below hb
  replace OO := OO.below hb
  replace hB := hB.below hb
  replace hF := hF.below hb
  replace DY := DY.below hb
  replace hR4 := hR4.below hb
  replace HB := below_then HB hb
  clear hb
  generalize hx8 : w8.heap.size = YB at *
  clear hx8
  generalize w8.alloc (bto b.rep b.seq b.time Ay ny cy) = w9 at *
  clear hGl
  generalize wz.heap.size = rbase at *
  refine kFin rfl ?_
  refine frNext ?_
  refine wp_seq ?_
  refine kGo ?_
  refine kVal (v := ?v79) (w' := w9.alloc (.cells #[] 5)) F78 rfl rfl rfl rfl ?y79 (fun a79 F79 => ?h79)
  case y79 =>
    skip
    go_simp
    all_goals (first | with_reducible rfl | (constructor <;> first | with_reducible rfl | rfl) | skip)
  clear F78 a77
  have HS := below_alloc1 w9 (.cells #[] 5)
  have HO : OwnB 5 (w9.alloc (.cells #[] 5)) w9.heap.size (.slice (some ⟨w9.heap.size, 0, none⟩) 0 0) [] := OwnB.lit 5 w9 w9.heap.size [] (Nat.le_refl _) (by simp)
  generalize w9.alloc (.cells #[] 5) = w9a at *
  refine kMove F79 rfl rfl rfl rfl rfl (fun a80 F80 => ?_)
  clear F79 a79
  refine kAppB (w0 := w9) w9.heap.size F80 rfl rfl rfl rfl (t := 31) (e := 5) rfl Tryd.underlying31 info_u8 rfl rfl HO (hF.below HS) HS HS.size ?c81 ?h81
  case c81 => simp only [List.length_append, List.length_nil]; omega
  clear HO HS
  intro va81 wa81 HO HS hg a81 F81
  clear F80 a80 hg
  rw [List.nil_append] at HO
  refine kMove F81 rfl rfl rfl rfl rfl (fun a82 F82 => ?_)
  clear F81 a81
  refine kAppBig (w0 := w9) w9.heap.size F82 rfl rfl rfl rfl (t := 31) (e := 5) rfl Tryd.underlying31 info_u8 rfl rfl HO (own_some HO hfp) (by omega) (hm.below HS) HS HS.size (by omega) ?h83
  clear HO HS
  intro vz83 wz HO HS a83 F83
  clear F82 a82
  obtain ⟨Ag, ng, cg, rfl, hG, -⟩ := HO.form
  clear HO
  have hGl := hG.len
  rw [List.length_append] at hGl
  have hc := BUnframe_any Ag ng cg (fs ++ more) _ hG (RG.below HS)
  rw [HU.out] at hc
  dsimp only at hc
  refine kCall F83 rfl rfl rfl rfl (hc) ?y84 ?h84
  case y84 =>
    have e58 := F83.ev 58 rfl; have g58 := F83.get 58 _ rfl
    go_simp; try with_reducible rfl
  rintro e w10 ⟨Az, nz, cz, lz, rfl, DZ, hb6⟩
  have hb := below_then HS hb6
  clear HS hb6 hG hc
  replace RG := RG.below hb
  replace hm := hm.below hb
  replace E := E.below hb
  replace OO := OO.below hb
  replace hB := hB.below hb
  replace hF := hF.below hb
  replace DY := DY.below hb
  replace hR4 := hR4.below hb
  replace OY := OY.below hb
  replace HB := below_then HB hb
  clear hb
  refine ⟨_, rfl, fun a84 F84 => ?_⟩
  clear F83 a83
  refine kMove F84 rfl rfl rfl rfl rfl (fun a85 F85 => ?_)
  clear F84 a84
  refine kMove F85 rfl rfl rfl rfl rfl (fun a86 F86 => ?_)
  clear F85 a85
  refine kMove F86 rfl rfl rfl rfl rfl (fun a87 F87 => ?_)
  clear F86 a86
  refine kMove F87 rfl rfl rfl rfl rfl (fun a88 F88 => ?_)
  clear F87 a87
  refine kVal (v := ?v89) (w' := w10.alloc (bto 0 0 0 none 0 0)) F88 rfl rfl rfl rfl ?y89 (fun a89 F89 => ?h89)
  case y89 =>
    skip
    go_simp
    all_goals (first | with_reducible rfl | (constructor <;> first | with_reducible rfl | rfl) | skip)
  clear F88 a88
  refine kStore (w' := w10.alloc (bto b.rep b.seq b.time Az nz cz)) F89 rfl rfl rfl ?y90 (fun a90 F90 => ?h90)
  case y90 =>
    have e12 := F89.ev 12 rfl; have g12 := F89.get 12 _ rfl; have e60 := F89.ev 60 rfl; have g60 := F89.get 60 _ rfl
    go_simp; try with_reducible rfl
  clear F89 a89
  refine kMove F90 rfl rfl rfl rfl rfl (fun a91 F91 => ?_)
  clear F90 a90
  refine kMove F91 rfl rfl rfl rfl rfl (fun a92 F92 => ?_)
  clear F91 a91
  have F93 := F92.sub (l' := [(5, .pointer (some ⟨OB, 0, none⟩)), (1, .slice M p q), (6, .slice Ab nb cb), (7, .int .i64 0), (8, .slice Af nf cf), (9, .int .i64 0), (10, .pointer (some ⟨rb, 0, none⟩)), (11, .pointer (some ⟨YB, 0, none⟩)), (12, .pointer (some ⟨w10.heap.size, 0, none⟩)), (13, .int .i64 (fs.length : Int)), (14, .int .i64 0)]) ⟨rfl, rfl, rfl, rfl, rfl, rfl, rfl, rfl, rfl, rfl, rfl, trivial⟩
  clear F92
  have hb := below_alloc1 w10 (bto b.rep b.seq b.time Az nz cz)
  have OZ := BAt.new w10 b.rep b.seq b.time Az nz cz _ rfl
  replace RG := RG.below hb
  replace hm := hm.below hb
  replace E := E.below hb
  replace OO := OO.below hb
  replace hB := hB.below hb
  replace hF := hF.below hb
  replace DY := DY.below hb
  replace hR4 := hR4.below hb
  replace OY := OY.below hb
  replace DZ := DZ.below hb
  replace HB := below_then HB hb
  clear hb
  generalize hx10 : w10.heap.size = ZB at *
  clear hx10
  generalize w10.alloc (bto b.rep b.seq b.time Az nz cz) = w11 at *
  refine kFin rfl ?_
  refine frNext ?_
  refine wp_seq ?_
  refine kGo ?_
  refine kTake (v := btv b.rep b.seq b.time Ay ny cy) F93 rfl rfl rfl rfl ?y94 (fun a94 F94 => ?h94)
  case y94 =>
    have q := OY.cs; have y0 := q.c0; have y1 := q.c1; have y2 := q.c2; have y3 := q.c3; clear q; have e11 := F93.ev 11 rfl; have g11 := F93.get 11 _ rfl
    go_simp; try with_reducible rfl
  clear F93 a92
  refine kTake (v := btv b.rep b.seq b.time A2 n c2) F94 rfl rfl rfl rfl ?y95 (fun a95 F95 => ?h95)
  case y95 =>
    have q := OO.cs; have y0 := q.c0; have y1 := q.c1; have y2 := q.c2; have y3 := q.c3; clear q; have e5 := F94.ev 5 rfl; have g5 := F94.get 5 _ rfl
    go_simp; try with_reducible rfl
  clear F94 a94
  refine kCall F95 rfl rfl rfl rfl (BSame_any b Ay ny cy ly b A2 n c2 l2 _ DY E rfl) ?y96 ?h96
  case y96 =>
    have e63 := F95.ev 63 rfl; have g63 := F95.get 63 _ rfl; have e64 := F95.ev 64 rfl; have g64 := F95.get 64 _ rfl
    go_simp; try with_reducible rfl
  rintro e w12 ⟨rfl, hb⟩
  replace RG := RG.below hb
  replace hm := hm.below hb
  replace E := E.below hb
  replace OO := OO.below hb
  replace hB := hB.below hb
  replace hF := hF.below hb
  replace DY := DY.below hb
  replace hR4 := hR4.below hb
  replace OY := OY.below hb
  replace DZ := DZ.below hb
  replace OZ := OZ.below hb
  replace HB := below_then HB hb
  clear hb
  refine ⟨_, rfl, fun a96 F96 => ?_⟩
  clear F95 a95
  refine kMove F96 rfl rfl rfl rfl rfl (fun a97 F97 => ?_)
  clear F96 a96
  refine kMove F97 rfl rfl rfl rfl rfl (fun a98 F98 => ?_)
  clear F97 a97
  refine kCall F98 rfl rfl rfl rfl (Left_r _ rb (more, 0) _ hR4) ?y99 ?h99
  case y99 =>
    have e67 := F98.ev 67 rfl; have g67 := F98.get 67 _ rfl
    go_simp; try with_reducible rfl
  rintro e wN ⟨rfl, rfl⟩
  refine ⟨_, rfl, fun a99 F99 => ?_⟩
  clear F98 a98
  refine kMove F99 rfl rfl rfl rfl rfl (fun a100 F100 => ?_)
  clear F99 a99
  refine kTake (v := ?v101) F100 rfl rfl rfl rfl ?y101 (fun a101 F101 => ?h101)
  case y101 =>
    have e69 := F100.ev 69 rfl; have g69 := F100.get 69 _ rfl
    go_simp; try with_reducible rfl
  clear F100 a100
  refine kTake (v := .bool true) F101 rfl rfl rfl rfl ?y102 (fun a102 F102 => ?h102)
  case y102 =>
    have e68 := F101.ev 68 rfl; have g68 := F101.get 68 _ rfl; have e70 := F101.ev 70 rfl; have g70 := F101.get 70 _ rfl
    first | (go_simp; done) | (go_simp; omega)
  clear F101 a101
  refine kMove F102 rfl rfl rfl rfl rfl (fun a103 F103 => ?_)
  clear F102 a102
  refine kMove F103 rfl rfl rfl rfl rfl (fun a104 F104 => ?_)
  clear F103 a103
  refine kMove F104 rfl rfl rfl rfl rfl (fun a105 F105 => ?_)
  clear F104 a104
  refine kCall F105 rfl rfl rfl rfl (num8_any 0 _) ?y106 ?h106
  case y106 =>
    have e74 := F105.ev 74 rfl; have g74 := F105.get 74 _ rfl
    go_simp; try with_reducible rfl
  rintro e wN ⟨rfl, rfl⟩
  refine ⟨_, rfl, fun a106 F106 => ?_⟩
  clear F105 a105
  refine kMove F106 rfl rfl rfl rfl rfl (fun a107 F107 => ?_)
  clear F106 a106
  refine kCall F107 rfl rfl rfl rfl (num8_any 0 _) ?y108 ?h108
  case y108 =>
    have e76 := F107.ev 76 rfl; have g76 := F107.get 76 _ rfl
    go_simp; try with_reducible rfl
  rintro e wN ⟨rfl, rfl⟩
  refine ⟨_, rfl, fun a108 F108 => ?_⟩
  clear F107 a107
  refine kTake (v := .int .i64 0) F108 rfl rfl rfl rfl ?y109 (fun a109 F109 => ?h109)
  case y109 =>
    have e75 := F108.ev 75 rfl; have g75 := F108.get 75 _ rfl; have e77 := F108.ev 77 rfl; have g77 := F108.get 77 _ rfl
    first | (go_simp; done) | (go_simp; simp only [IntKind.wrap_i64]; omega)
  clear F108 a108
  refine kTake (v := .bool true) F109 rfl rfl rfl rfl ?y110 (fun a110 F110 => ?h110)
  case y110 =>
    have e78 := F109.ev 78 rfl; have g78 := F109.get 78 _ rfl
    go_simp; try with_reducible rfl
  clear F109 a109
  refine kMove F110 rfl rfl rfl rfl rfl (fun a111 F111 => ?_)
  clear F110 a110
  refine kMove F111 rfl rfl rfl rfl rfl (fun a112 F112 => ?_)
  clear F111 a111
  refine kTake (v := btv b.rep b.seq b.time Az nz cz) F112 rfl rfl rfl rfl ?y113 (fun a113 F113 => ?h113)
  case y113 =>
    have q := OZ.cs; have y0 := q.c0; have y1 := q.c1; have y2 := q.c2; have y3 := q.c3; clear q; have e12 := F112.ev 12 rfl; have g12 := F112.get 12 _ rfl
    go_simp; try with_reducible rfl
  clear F112 a112
  refine kTake (v := btv b.rep b.seq b.time A2 n c2) F113 rfl rfl rfl rfl ?y114 (fun a114 F114 => ?h114)
  case y114 =>
    have q := OO.cs; have y0 := q.c0; have y1 := q.c1; have y2 := q.c2; have y3 := q.c3; clear q; have e5 := F113.ev 5 rfl; have g5 := F113.get 5 _ rfl
    go_simp; try with_reducible rfl
  clear F113 a113
  refine kCall F114 rfl rfl rfl rfl (BSame_any b Az nz cz lz b A2 n c2 l2 _ DZ E rfl) ?y115 ?h115
  case y115 =>
    have e82 := F114.ev 82 rfl; have g82 := F114.get 82 _ rfl; have e83 := F114.ev 83 rfl; have g83 := F114.get 83 _ rfl
    go_simp; try with_reducible rfl
  rintro e w13 ⟨rfl, hb⟩
  replace RG := RG.below hb
  replace hm := hm.below hb
  replace E := E.below hb
  replace OO := OO.below hb
  replace hB := hB.below hb
  replace hF := hF.below hb
  replace DY := DY.below hb
  replace hR4 := hR4.below hb
  replace OY := OY.below hb
  replace DZ := DZ.below hb
  replace OZ := OZ.below hb
  replace HB := below_then HB hb
  clear hb
  refine ⟨_, rfl, fun a115 F115 => ?_⟩
  clear F114 a114
  refine kMove F115 rfl rfl rfl rfl rfl (fun a116 F116 => ?_)
  clear F115 a115
  refine kMove F116 rfl rfl rfl rfl rfl (fun a117 F117 => ?_)
  clear F116 a116
  refine kMove F117 rfl rfl rfl rfl rfl (fun a118 F118 => ?_)
  clear F117 a117
  refine kMove F118 rfl rfl rfl rfl rfl (fun a119 F119 => ?_)
  clear F118 a118
  refine kTake (v := ?v120) F119 rfl rfl rfl rfl ?y120 (fun a120 F120 => ?h120)
  case y120 =>
    have e88 := F119.ev 88 rfl; have g88 := F119.get 88 _ rfl
    go_simp; try with_reducible rfl
  clear F119 a119
  refine kTake (v := .bool true) F120 rfl rfl rfl rfl ?y121 (fun a121 F121 => ?h121)
  case y121 =>
    have e87 := F120.ev 87 rfl; have g87 := F120.get 87 _ rfl; have e89 := F120.ev 89 rfl; have g89 := F120.get 89 _ rfl
    first | (go_simp; done) | (go_simp; omega)
  clear F120 a120
  refine kMove F121 rfl rfl rfl rfl rfl (fun a122 F122 => ?_)
  clear F121 a121
  refine kMove F122 rfl rfl rfl rfl rfl (fun a123 F123 => ?_)
  clear F122 a122
  refine kCall F123 rfl rfl rfl rfl (knows8_any _ RG) ?y124 ?h124
  case y124 =>
    skip
    go_simp; try with_reducible rfl
  rintro e w14 ⟨rfl, hb⟩
  replace RG := RG.below hb
  replace hm := hm.below hb
  replace E := E.below hb
  replace OO := OO.below hb
  replace hB := hB.below hb
  replace hF := hF.below hb
  replace DY := DY.below hb
  replace hR4 := hR4.below hb
  replace OY := OY.below hb
  replace DZ := DZ.below hb
  replace OZ := OZ.below hb
  replace HB := below_then HB hb
  clear hb
  refine ⟨_, rfl, fun a124 F124 => ?_⟩
  clear F123 a123
  refine kMove F124 rfl rfl rfl rfl rfl (fun a125 F125 => ?_)
  clear F124 a124
  refine kMove F125 rfl rfl rfl rfl rfl (fun a126 F126 => ?_)
  clear F125 a125
  refine kFin rfl ?_
  refine frNext ?_
  refine wp_ret ?_
  exact frRet1 rfl F126 rfl ⟨rfl, HB⟩
end Go.Proofs.YtnakanophilfhaaDoor
/- ShB: Batches, as they come in: their shape, read as plain data. -/
namespace Go.Proofs.YtnakanophilfhaaDoor
open Go.RowKit Go.Dio
set_option linter.unusedVariables false
set_option linter.unusedSimpArgs false
theorem ov_inv : ∀ (l : List OpV) (k : Nat) (u : Value), (ov l)[k]? = some u → ∃ i j p, k = i * 12 + j ∧ l[i]? = some p ∧ (ox p)[j]? = some u
  | [], k, u, h => by simp [ov] at h
  | p :: l, k, u, h => by
    simp only [ov] at h
    by_cases hk : k < 12
    · rw [List.getElem?_append_left (by show k < 12; exact hk)] at h
      exact ⟨0, k, p, by omega, rfl, by simpa using h⟩
    · rw [List.getElem?_append_right (by show 12 ≤ k; omega)] at h
      obtain ⟨i, j, q, e, hq, hj⟩ := ov_inv l (k - 12) u h
      exact ⟨i + 1, j, q, by omega, by simpa using hq, hj⟩
/-- A batch's shape. -/
@[reducible] def shBatch : Sh := .pair (.int .i64) (.pair (.int .i64) (.pair (.int .i64) (.pair (.slice shOp) .unit)))
theorem ops_of {w : World} {cs : List Value} {x : (Sh.slice shOp).T} (h : (Sh.slice shOp).reads w cs x) : ∃ A n c l, cs = [.slice A n c] ∧ IsOps w A n c l := by
  obtain ⟨A, n, c, rfl, hl, hn, hc, hr⟩ := h
  rcases hr with rfl | ⟨b, o, rfl, hr⟩
  · exact ⟨A, n, c, [], rfl, hl, hn, hc, .inl rfl, fun p hp => by cases hp⟩
  · have ex : ∀ i : Nat, i < n → ∃ p : OpV, (∀ j v, (ox p)[j]? = some v → w.cell? ⟨b, o + i * 12 + j, none⟩ = some v) ∧ OpIs w p.d p.A p.n p.c := fun i hi => by
      obtain ⟨cs, h1, h2, h3⟩ := hr i (x[i]'(by omega)) (List.getElem?_eq_getElem (by omega))
      obtain ⟨d, A', n', c', rfl, h4⟩ := op_cells h3
      exact ⟨⟨d, A', n', c'⟩, fun j v hv => h2 j v (by simpa using hv), h4⟩
    obtain ⟨f, hf⟩ : ∃ f : Nat → OpV, ∀ i, i < n → (∀ j v, (ox (f i))[j]? = some v → w.cell? ⟨b, o + i * 12 + j, none⟩ = some v) ∧ OpIs w (f i).d (f i).A (f i).n (f i).c :=
      ⟨fun i => if hi : i < n then (ex i hi).choose else ⟨⟨0, 0, 0, 0, 0, ⟨#[]⟩, [], 0, 0, 0, ⟨#[]⟩, false⟩, none, 0, 0⟩, fun i hi => by simp only [hi, dif_pos]; exact (ex i hi).choose_spec⟩
    refine ⟨some ⟨b, o, none⟩, n, c, (List.range n).map f, rfl, by simp, hn, hc, .inr ⟨b, o, rfl, fun k u hu => ?_⟩, fun p hp => ?_⟩
    · obtain ⟨i, j, p, rfl, hp, hj⟩ := ov_inv _ k u hu
      rw [List.getElem?_map, Option.map_eq_some_iff] at hp
      obtain ⟨i', hi', rfl⟩ := hp
      obtain ⟨q1, q2⟩ := List.getElem?_eq_some_iff.1 hi'
      simp at q1 q2
      subst q2
      rw [← Nat.add_assoc]
      exact (hf i q1).1 j u hj
    · obtain ⟨i, hi, rfl⟩ := List.mem_map.1 hp
      exact (hf i (by simpa using hi)).2
theorem batch_cut {w : World} {a : Array Value} {x : shBatch.T} (h : shBatch.reads w a.toList x) : ∃ b A n c l, a = bxs b.rep b.seq b.time A n c ∧ BtIs w b A n c l := by
  obtain ⟨c1, c2, h0, ⟨rfl, _⟩, c3, c4, rfl, ⟨rfl, _⟩, c5, c6, rfl, ⟨rfl, _⟩, c7, c8, rfl, ho, hu⟩ := h
  obtain ⟨A, n, c, l, rfl, hl⟩ := ops_of ho
  have e4 : c8 = [] := hu
  subst e4
  exact ⟨⟨x.1, x.2.1, x.2.2.1, l.map OpV.d⟩, A, n, c, l, Array.toList_inj.1 h0, hl, rfl⟩
end Go.Proofs.YtnakanophilfhaaDoor
/- RwBB: BatchBack, of what comes in. -/
namespace Go.Proofs.YtnakanophilfhaaDoor
open Go.RowKit Go.Dio
set_option linter.unusedVariables false
set_option linter.unusedSimpArgs false
theorem BatchBack_row (a : Array Value) (x : shBatch.T) (M : Option Addr) (p q : Nat) (more : List UInt8) (w : World) (h : shBatch.reads w a.toList x) (hm : IsB w M p q more) (hp : p ≤ 140737488351232) (hg : RootsAt w) :
    Calls Tryd.prog 7 #[.agg a, .slice M p q] w fun e w' => e = .returned (.bool true) ∧ Below w.heap.size w w' := by
  obtain ⟨b, A, n, c, l, rfl, h1⟩ := batch_cut h
  exact BatchBack_walk b A n c l M p q more w h1 hm hp hg
end Go.Proofs.YtnakanophilfhaaDoor
