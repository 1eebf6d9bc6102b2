/- LawBS ShB RwBS in one. -/
import Derived.Test.YtnakanophilfhaaDoorBzO
import Derived.Test.YtnakanophilfhaaDoorShO
import Derived.Test.YtnakanophilfhaaDoorBzM
/- LawBS: BatchStamps: the stamps of a batch that may be rise by one from place to place, from its time to its end, and are its replica's. -/
namespace Go.Proofs.YtnakanophilfhaaDoor
open Go.RowKit Go.Dio
set_option linter.unusedVariables false
set_option linter.unusedSimpArgs false

set_option maxRecDepth 100000 in
set_option maxHeartbeats 4000000 in
theorem BatchStamps_walk (b : BtD) (A : Option Addr) (n c : Nat) (l : List OpV) (w : World) (h : BtIs w b A n c l) (hg : RootsAt w) : Calls Tryd.prog 8 #[btv b.rep b.seq b.time A n c] w fun e w' => e = .returned (.bool true) ∧ Below w.heap.size w w' := by
  have HB := Below.refl w.heap.size w
  have RG := hg
  have D := h
  clear h hg
  have hcap := D.ops.cap
  have hmax := D.ops.max
  refine frCall (args := [btv b.rep b.seq b.time A n c]) (N := 87) Tryd.func8 rfl rfl rfl (fun a0 F0 => ?_)
  refine wp_seq ?_
  refine kGo ?_
  refine kVal (v := ?v1) (w' := w.alloc (.cells (bxs b.rep b.seq b.time A n c) 60)) F0 rfl rfl rfl rfl ?y1 (fun a1 F1 => ?h1)
  case y1 =>
    have e0 := F0.ev 0 rfl; have g0 := F0.get 0 _ rfl
    go_simp
    all_goals (first | with_reducible rfl | (constructor <;> first | with_reducible rfl | rfl) | skip)
  clear F0 a0
  refine kMove F1 rfl rfl rfl rfl rfl (fun a2 F2 => ?_)
  clear F1 a1
  have F3 := F2.sub (l' := [(1, .pointer (some ⟨w.heap.size, 0, none⟩))]) ⟨rfl, trivial⟩
  clear F2
  have hb := below_alloc1 w (.cells (bxs b.rep b.seq b.time A n c) 60)
  have OX : BCells (w.alloc (.cells (bxs b.rep b.seq b.time A n c) 60)) w.heap.size b.rep b.seq b.time A n c := ⟨cell_of (new_at w (.cells (bxs b.rep b.seq b.time A n c) 60)) 0 rfl, cell_of (new_at w (.cells (bxs b.rep b.seq b.time A n c) 60)) 1 rfl, cell_of (new_at w (.cells (bxs b.rep b.seq b.time A n c) 60)) 2 rfl, cell_of (new_at w (.cells (bxs b.rep b.seq b.time A n c) 60)) 3 rfl⟩
  replace RG := RG.below hb
  replace D := D.below hb
  replace HB := below_then HB hb
  clear hb
  generalize w.alloc (.cells (bxs b.rep b.seq b.time A n c) 60) = w1 at *
  refine kFin rfl ?_
  refine frNext ?_
  refine wp_seq ?_
  refine wp_seq ?_
  refine kGo ?_
  refine kTake (v := btv b.rep b.seq b.time A n c) F3 rfl rfl rfl rfl ?y4 (fun a4 F4 => ?h4)
  case y4 =>
    have y0 := OX.c0; have y1 := OX.c1; have y2 := OX.c2; have y3 := OX.c3; have e1 := F3.ev 1 rfl; have g1 := F3.get 1 _ rfl
    go_simp; try with_reducible rfl
  clear F3 a2
  refine kCall F4 rfl rfl rfl rfl (Light8_any b.rep b.seq b.time A n c l _ D.ops) ?y5 ?h5
  case y5 =>
    have e7 := F4.ev 7 rfl; have g7 := F4.get 7 _ rfl
    go_simp; try with_reducible rfl
  rintro e w2 ⟨r, rfl, hr, hb⟩
  have HR := hid hr
  clear hr
  replace RG := RG.below hb
  replace D := D.below hb
  replace OX := OX.below hb
  replace HB := below_then HB hb
  clear hb
  rcases r with _ | _
  
  · skip
    refine ⟨_, rfl, fun a5 F5 => ?_⟩
    clear F4 a4
    refine kMove F5 rfl rfl rfl rfl rfl (fun a6 F6 => ?_)
    clear F5 a5
    refine kFin rfl ?_
    refine frNext ?_
    refine frCond (b := true) F6 rfl ?_
    simp only [if_true]
    refine wp_seq ?_
    refine kGo ?_
    refine kCall F6 rfl rfl rfl rfl (knows8_any _ RG) ?y7 ?h7
    case y7 =>
      skip
      go_simp; try with_reducible rfl
    rintro e w3 ⟨rfl, hb⟩
    replace RG := RG.below hb
    replace D := D.below hb
    replace OX := OX.below hb
    replace HB := below_then HB hb
    clear hb
    refine ⟨_, rfl, fun a7 F7 => ?_⟩
    clear F6 a6
    refine kMove F7 rfl rfl rfl rfl rfl (fun a8 F8 => ?_)
    clear F7 a7
    refine kFin rfl ?_
    refine frNext ?_
    refine wp_ret ?_
    refine frThenRet ?_
    exact frRet1 rfl F8 rfl ⟨rfl, HB⟩
  refine ⟨_, rfl, fun a5 F5 => ?_⟩
  clear F4 a4
  obtain ⟨hn70, hp500⟩ := HR.out rfl
  clear HR
  have HP5 := hid hp500
  clear hp500
  refine kMove F5 rfl rfl rfl rfl rfl (fun a9 F9 => ?_)
  clear F5 a5
  refine kFin rfl ?_
  refine frNext ?_
  refine frCond (b := false) F9 rfl ?_
  simp only [Bool.false_eq_true, if_false]
  refine wp_skip ?_
  refine frNext ?_
  refine wp_seq ?_
  have F10 := F9.sub (l' := [(1, .pointer (some ⟨w.heap.size, 0, none⟩))]) ⟨rfl, trivial⟩
  clear F9
  refine kGo ?_
  refine kTake (v := btv b.rep b.seq b.time A n c) F10 rfl rfl rfl rfl ?y11 (fun a11 F11 => ?h11)
  case y11 =>
    have y0 := OX.c0; have y1 := OX.c1; have y2 := OX.c2; have y3 := OX.c3; have e1 := F10.ev 1 rfl; have g1 := F10.get 1 _ rfl
    go_simp; try with_reducible rfl
  clear F10 a9
  refine kCall F11 rfl rfl rfl rfl (Own8_any b A n c l _ D hn70 HP5.out) ?y12 ?h12
  case y12 =>
    have e11 := F11.ev 11 rfl; have g11 := F11.get 11 _ rfl
    go_simp; try with_reducible rfl
  rintro e w3 ⟨A2, c2, l2, rfl, E, hb⟩
  replace RG := RG.below hb
  replace D := D.below hb
  replace OX := OX.below hb
  replace HB := below_then HB hb
  clear hb
  refine ⟨_, rfl, fun a12 F12 => ?_⟩
  clear F11 a11
  refine kVal (v := ?v13) (w' := w3.alloc (bto 0 0 0 none 0 0)) F12 rfl rfl rfl rfl ?y13 (fun a13 F13 => ?h13)
  case y13 =>
    skip
    go_simp
    all_goals (first | with_reducible rfl | (constructor <;> first | with_reducible rfl | rfl) | skip)
  clear F12 a12
  refine kStore (w' := w3.alloc (bto b.rep b.seq b.time A2 n c2)) F13 rfl rfl rfl ?y14 (fun a14 F14 => ?h14)
  case y14 =>
    have e3 := F13.ev 3 rfl; have g3 := F13.get 3 _ rfl; have e12 := F13.ev 12 rfl; have g12 := F13.get 12 _ rfl
    go_simp; try with_reducible rfl
  clear F13 a13
  have F15 := F14.sub (l' := [(1, .pointer (some ⟨w.heap.size, 0, none⟩)), (3, .pointer (some ⟨w3.heap.size, 0, none⟩))]) ⟨rfl, rfl, trivial⟩
  clear F14
  have hb := below_alloc1 w3 (bto b.rep b.seq b.time A2 n c2)
  have OO := BAt.new w3 b.rep b.seq b.time A2 n c2 _ rfl
  replace RG := RG.below hb
  replace D := D.below hb
  replace OX := OX.below hb
  replace E := E.below hb
  replace HB := below_then HB hb
  clear hb
  generalize hx3 : w3.heap.size = OB at *
  clear hx3
  generalize w3.alloc (bto b.rep b.seq b.time A2 n c2) = w4 at *
  refine kFin rfl ?_
  refine frNext ?_
  refine wp_seq ?_
  refine kGo ?_
  refine kTake (v := ?v16) F15 rfl rfl rfl rfl ?y16 (fun a16 F16 => ?h16)
  case y16 =>
    have e3 := F15.ev 3 rfl; have g3 := F15.get 3 _ rfl
    go_simp; try with_reducible rfl
  clear F15 a14
  refine kTake (v := ?v17) F16 rfl rfl rfl rfl ?y17 (fun a17 F17 => ?h17)
  case y17 =>
    have q := OO.cs; have y0 := q.c0; have y1 := q.c1; have y2 := q.c2; have y3 := q.c3; clear q; have e13 := F16.ev 13 rfl; have g13 := F16.get 13 _ rfl
    go_simp; try with_reducible rfl
  clear F16 a16
  refine kTake (v := ?v18) F17 rfl rfl rfl rfl ?y18 (fun a18 F18 => ?h18)
  case y18 =>
    have e14 := F17.ev 14 rfl; have g14 := F17.get 14 _ rfl
    go_simp; try with_reducible rfl
  clear F17 a17
  refine kMove F18 rfl rfl rfl rfl rfl (fun a19 F19 => ?_)
  clear F18 a18
  have F20 := F19.sub (l' := [(1, .pointer (some ⟨w.heap.size, 0, none⟩)), (3, .pointer (some ⟨OB, 0, none⟩)), (4, .int .i64 (n : Int))]) ⟨rfl, rfl, rfl, trivial⟩
  clear F19
  refine kFin rfl ?_
  refine frNext ?_
  refine wp_seq ?_
  refine wp_seq ?_
  refine kGo ?_
  refine kTake (v := btv b.rep b.seq b.time A2 n c2) F20 rfl rfl rfl rfl ?y21 (fun a21 F21 => ?h21)
  case y21 =>
    have q := OO.cs; have y0 := q.c0; have y1 := q.c1; have y2 := q.c2; have y3 := q.c3; clear q; have e3 := F20.ev 3 rfl; have g3 := F20.get 3 _ rfl
    go_simp; try with_reducible rfl
  clear F20 a19
  rcases hbr : bright b with _ | _
  · skip
    have hst : ∀ i, bStamp b i = (0, 0) := fun i => by unfold bStamp; rw [if_neg (by rw [hbr]; simp)]
    refine kCall F21 rfl rfl rfl rfl (BRight_any b A2 n c2 l2 _ E RG) ?y22 ?h22
    case y22 =>
      have e16 := F21.ev 16 rfl; have g16 := F21.get 16 _ rfl
      go_simp; try with_reducible rfl
    rw [hbr]
    rintro e w5 ⟨rfl, hb⟩
    replace RG := RG.below hb
    replace D := D.below hb
    replace OX := OX.below hb
    replace E := E.below hb
    replace OO := OO.below hb
    replace HB := below_then HB hb
    clear hb
    refine ⟨_, rfl, fun a22 F22 => ?_⟩
    clear F21 a21
    refine kMove F22 rfl rfl rfl rfl rfl (fun a23 F23 => ?_)
    clear F22 a22
    refine kFin rfl ?_
    refine frNext ?_
    refine frCond (b := true) F23 rfl ?_
    simp only [if_true]
    refine wp_seq ?_
    have F24 := F23.sub (l' := [(1, .pointer (some ⟨w.heap.size, 0, none⟩)), (3, .pointer (some ⟨OB, 0, none⟩)), (4, .int .i64 (n : Int))]) ⟨rfl, rfl, rfl, trivial⟩
    clear F23
    refine kGo ?_
    refine kTake (v := btv b.rep b.seq b.time A2 n c2) F24 rfl rfl rfl rfl ?y25 (fun a25 F25 => ?h25)
    case y25 =>
      have q := OO.cs; have y0 := q.c0; have y1 := q.c1; have y2 := q.c2; have y3 := q.c3; clear q; have e3 := F24.ev 3 rfl; have g3 := F24.get 3 _ rfl
      go_simp; try with_reducible rfl
    clear F24 a23
    refine kCall F25 rfl rfl rfl rfl (BEnd_any b A2 n c2 l2 _ E RG) ?y26 ?h26
    case y26 =>
      have e19 := F25.ev 19 rfl; have g19 := F25.get 19 _ rfl
      go_simp; try with_reducible rfl
    rw [hst]
    rintro e w6 ⟨rfl, hb⟩
    replace RG := RG.below hb
    replace D := D.below hb
    replace OX := OX.below hb
    replace E := E.below hb
    replace OO := OO.below hb
    replace HB := below_then HB hb
    clear hb
    refine ⟨_, rfl, fun a26 F26 => ?_⟩
    clear F25 a25
    refine kTake (v := stv 0 0) F26 rfl rfl rfl rfl ?y27 (fun a27 F27 => ?h27)
    case y27 =>
      skip
      go_simp; try with_reducible rfl
    clear F26 a26
    refine kTake (v := .bool true) F27 rfl rfl rfl rfl ?y28 (fun a28 F28 => ?h28)
    case y28 =>
      have e20 := F27.ev 20 rfl; have g20 := F27.get 20 _ rfl; have e21 := F27.ev 21 rfl; have g21 := F27.get 21 _ rfl
      go_simp; try with_reducible rfl
    clear F27 a27
    refine kMove F28 rfl rfl rfl rfl rfl (fun a29 F29 => ?_)
    clear F28 a28
    refine kTake (v := btv b.rep b.seq b.time A2 n c2) F29 rfl rfl rfl rfl ?y30 (fun a30 F30 => ?h30)
    case y30 =>
      have q := OO.cs; have y0 := q.c0; have y1 := q.c1; have y2 := q.c2; have y3 := q.c3; clear q; have e3 := F29.ev 3 rfl; have g3 := F29.get 3 _ rfl
      go_simp; try with_reducible rfl
    clear F29 a29
    refine kCall F30 rfl rfl rfl rfl (BStamp_any b 0 A2 n c2 l2 _ E RG) ?y31 ?h31
    case y31 =>
      have e24 := F30.ev 24 rfl; have g24 := F30.get 24 _ rfl
      go_simp; try with_reducible rfl
    rw [hst]
    rintro e w7 ⟨rfl, hb⟩
    replace RG := RG.below hb
    replace D := D.below hb
    replace OX := OX.below hb
    replace E := E.below hb
    replace OO := OO.below hb
    replace HB := below_then HB hb
    clear hb
    refine ⟨_, rfl, fun a31 F31 => ?_⟩
    clear F30 a30
    refine kTake (v := stv 0 0) F31 rfl rfl rfl rfl ?y32 (fun a32 F32 => ?h32)
    case y32 =>
      skip
      go_simp; try with_reducible rfl
    clear F31 a31
    refine kTake (v := .bool true) F32 rfl rfl rfl rfl ?y33 (fun a33 F33 => ?h33)
    case y33 =>
      have e25 := F32.ev 25 rfl; have g25 := F32.get 25 _ rfl; have e26 := F32.ev 26 rfl; have g26 := F32.get 26 _ rfl
      go_simp; try with_reducible rfl
    clear F32 a32
    refine kMove F33 rfl rfl rfl rfl rfl (fun a34 F34 => ?_)
    clear F33 a33
    refine kMove F34 rfl rfl rfl rfl rfl (fun a35 F35 => ?_)
    clear F34 a34
    refine kCall F35 rfl rfl rfl rfl (knows8_any _ RG) ?y36 ?h36
    case y36 =>
      skip
      go_simp; try with_reducible rfl
    rintro e w8 ⟨rfl, hb⟩
    replace RG := RG.below hb
    replace D := D.below hb
    replace OX := OX.below hb
    replace E := E.below hb
    replace OO := OO.below hb
    replace HB := below_then HB hb
    clear hb
    refine ⟨_, rfl, fun a36 F36 => ?_⟩
    clear F35 a35
    refine kMove F36 rfl rfl rfl rfl rfl (fun a37 F37 => ?_)
    clear F36 a36
    refine kMove F37 rfl rfl rfl rfl rfl (fun a38 F38 => ?_)
    clear F37 a37
    refine kFin rfl ?_
    refine frNext ?_
    refine wp_ret ?_
    refine frThenRet ?_
    exact frRet1 rfl F38 rfl ⟨rfl, HB⟩
  refine kCall F21 rfl rfl rfl rfl (BRight_any b A2 n c2 l2 _ E RG) ?y39 ?h39
  case y39 =>
    have e16 := F21.ev 16 rfl; have g16 := F21.get 16 _ rfl
    go_simp; try with_reducible rfl
  rw [hbr]
  rintro e w5 ⟨rfl, hb⟩
  replace RG := RG.below hb
  replace D := D.below hb
  replace OX := OX.below hb
  replace E := E.below hb
  replace OO := OO.below hb
  replace HB := below_then HB hb
  clear hb
  refine ⟨_, rfl, fun a39 F39 => ?_⟩
  clear F21 a21
  refine kMove F39 rfl rfl rfl rfl rfl (fun a40 F40 => ?_)
  clear F39 a39
  refine kFin rfl ?_
  refine frNext ?_
  refine frCond (b := false) F40 rfl ?_
  simp only [Bool.false_eq_true, if_false]
  refine wp_skip ?_
  refine frNext ?_
  refine wp_seq ?_
  refine wp_seq ?_
  have F41 := F40.sub (l' := [(1, .pointer (some ⟨w.heap.size, 0, none⟩)), (3, .pointer (some ⟨OB, 0, none⟩)), (4, .int .i64 (n : Int))]) ⟨rfl, rfl, rfl, trivial⟩
  clear F40
  have q := bright_i hbr
  have hbl := E.len
  have ht0 := q.t0; have ht1 := q.t1; have hn0 := q.n0; have hn1 := q.n1
  have HST := hid (show ∀ i : Int, 0 ≤ i → i < (n : Int) → bStamp b i = (b.time + i, b.rep) from fun i h0 h1 => by unfold bStamp; rw [if_pos ⟨h0, by omega, hbr⟩])
  have HSN := hid (show ∀ i : Int, (i < 0 ∨ (n : Int) ≤ i) → bStamp b i = (0, 0) from fun i hi => by unfold bStamp; rw [if_neg (fun h => by have := h.1; have := h.2.1; omega)])
  rw [hbl] at ht1 hn0 hn1
  clear q hbl
  have H5 := hid (show RootsAt w5 ∧ BCells w5 w.heap.size b.rep b.seq b.time A n c ∧ BtIs w5 b A2 n c2 l2 ∧ BAt w5 OB b.rep b.seq b.time A2 n c2 ∧ Below w.heap.size w w5 from ⟨RG, OX, E, OO, HB⟩)
  clear RG OX E OO HB D
  refine kGo ?_
  refine kMove F41 rfl rfl rfl rfl rfl (fun a42 F42 => ?_)
  clear F41 a40
  have F43 := F42.sub (l' := [(1, .pointer (some ⟨w.heap.size, 0, none⟩)), (3, .pointer (some ⟨OB, 0, none⟩)), (4, .int .i64 (n : Int)), (5, .int .i64 0)]) ⟨rfl, rfl, rfl, rfl, trivial⟩
  clear F42
  refine kFin rfl ?_
  refine frNext ?_
  refine frBlock ?_
  refine wp_loop (fun aL wL => ∃ (i : Nat), i ≤ n ∧ Fr aL 87 [(1, .pointer (some ⟨w.heap.size, 0, none⟩)), (3, .pointer (some ⟨OB, 0, none⟩)), (4, .int .i64 (n : Int)), (5, .int .i64 (i : Int))] ∧ Below w5.heap.size w5 wL) (fun aL _ => n - (intOf (aL.tmps.getD 5 undef)).toNat) ?st ?rd
  case st => exact ⟨0, by omega, F43, Below.refl _ _⟩
  case rd =>
    clear F43 a42
    rintro aL wL ⟨i, hi, FL, HS⟩
    rw [show intOf (aL.tmps.getD 5 undef) = (i : Int) by rw [FL.ev 5 rfl]; rfl]
    obtain ⟨RG, OX, E, OO, HB⟩ := H5.out
    replace RG := RG.below HS
    replace OX := OX.below HS
    replace E := E.below HS
    replace OO := OO.below HS
    replace HB := below_then HB HS
    refine wp_seq ?_
    refine wp_seq ?_
    by_cases hlt : i < n
    · skip
      refine kGo ?_
      refine kMove FL rfl rfl rfl rfl rfl (fun a44 F44 => ?_)
      clear FL aL
      refine kMove F44 rfl rfl rfl rfl rfl (fun a45 F45 => ?_)
      clear F44 a44
      refine kTake (v := .bool true) F45 rfl rfl rfl rfl ?y46 (fun a46 F46 => ?h46)
      case y46 =>
        have e32 := F45.ev 32 rfl; have g32 := F45.get 32 _ rfl; have e33 := F45.ev 33 rfl; have g33 := F45.get 33 _ rfl
        first | (go_simp; done) | (go_simp; omega)
      clear F45 a45
      have F47 := F46.sub (l' := [(1, .pointer (some ⟨w.heap.size, 0, none⟩)), (3, .pointer (some ⟨OB, 0, none⟩)), (4, .int .i64 (n : Int)), (5, .int .i64 (i : Int)), (34, .bool true)]) ⟨rfl, rfl, rfl, rfl, rfl, trivial⟩
      clear F46
      refine kFin rfl ?_
      refine frNext ?_
      refine frCond (b := true) F47 rfl ?_
      simp only [if_true]
      refine wp_skip ?_
      refine frNext ?_
      refine wp_seq ?_
      refine frBlock ?_
      refine wp_seq ?_
      refine kGo ?_
      refine kTake (v := btv b.rep b.seq b.time A2 n c2) F47 rfl rfl rfl rfl ?y48 (fun a48 F48 => ?h48)
      case y48 =>
        have q := OO.cs; have y0 := q.c0; have y1 := q.c1; have y2 := q.c2; have y3 := q.c3; clear q; have e3 := F47.ev 3 rfl; have g3 := F47.get 3 _ rfl
        go_simp; try with_reducible rfl
      clear F47 a46
      refine kMove F48 rfl rfl rfl rfl rfl (fun a49 F49 => ?_)
      clear F48 a48
      refine kCall F49 rfl rfl rfl rfl (BStamp_any b (i : Int) A2 n c2 l2 _ E RG) ?y50 ?h50
      case y50 =>
        have e37 := F49.ev 37 rfl; have g37 := F49.get 37 _ rfl; have e38 := F49.ev 38 rfl; have g38 := F49.get 38 _ rfl
        go_simp; try with_reducible rfl
      rw [HST.out i (by omega) (by omega)]
      rintro e w6 ⟨rfl, hb⟩
      replace HS := below_then HS hb
      replace RG := RG.below hb
      replace OX := OX.below hb
      replace E := E.below hb
      replace OO := OO.below hb
      replace HB := below_then HB hb
      clear hb
      refine ⟨_, rfl, fun a50 F50 => ?_⟩
      clear F49 a49
      refine kVal (v := ?v51) (w' := w6.alloc (so 0 0)) F50 rfl rfl rfl rfl ?y51 (fun a51 F51 => ?h51)
      case y51 =>
        skip
        go_simp
        all_goals (first | with_reducible rfl | (constructor <;> first | with_reducible rfl | rfl) | skip)
      clear F50 a50
      refine kStore (w' := w6.alloc (so (b.time + i) b.rep)) F51 rfl rfl rfl ?y52 (fun a52 F52 => ?h52)
      case y52 =>
        have e6 := F51.ev 6 rfl; have g6 := F51.get 6 _ rfl; have e39 := F51.ev 39 rfl; have g39 := F51.get 39 _ rfl
        go_simp; try with_reducible rfl
      clear F51 a51
      have hb := below_alloc1 w6 (so (b.time + (i : Int)) b.rep)
      have SS := SAt.new w6 (b.time + (i : Int)) b.rep _ rfl
      replace HS := below_then HS hb
      replace RG := RG.below hb
      replace OX := OX.below hb
      replace E := E.below hb
      replace OO := OO.below hb
      replace HB := below_then HB hb
      clear hb
      generalize hx6 : w6.heap.size = SB at *
      clear hx6
      generalize w6.alloc (so (b.time + (i : Int)) b.rep) = w7 at *
      have F53 := F52.sub (l' := [(1, .pointer (some ⟨w.heap.size, 0, none⟩)), (3, .pointer (some ⟨OB, 0, none⟩)), (4, .int .i64 (n : Int)), (5, .int .i64 (i : Int)), (6, .pointer (some ⟨SB, 0, none⟩))]) ⟨rfl, rfl, rfl, rfl, rfl, trivial⟩
      clear F52
      refine kFin rfl ?_
      refine frNext ?_
      refine wp_seq ?_
      refine kGo ?_
      refine kTake (v := ?v54) F53 rfl rfl rfl rfl ?y54 (fun a54 F54 => ?h54)
      case y54 =>
        have e6 := F53.ev 6 rfl; have g6 := F53.get 6 _ rfl
        go_simp; try with_reducible rfl
      clear F53 a52
      refine kTake (v := ?v55) F54 rfl rfl rfl rfl ?y55 (fun a55 F55 => ?h55)
      case y55 =>
        have s0 := SS.c0; have s1 := SS.c1; have y0 := OX.c0; have y1 := OX.c1; have y2 := OX.c2; have y3 := OX.c3; have e40 := F54.ev 40 rfl; have g40 := F54.get 40 _ rfl
        go_simp; try with_reducible rfl
      clear F54 a54
      refine kTake (v := ?v56) F55 rfl rfl rfl rfl ?y56 (fun a56 F56 => ?h56)
      case y56 =>
        have e1 := F55.ev 1 rfl; have g1 := F55.get 1 _ rfl
        go_simp; try with_reducible rfl
      clear F55 a55
      refine kTake (v := ?v57) F56 rfl rfl rfl rfl ?y57 (fun a57 F57 => ?h57)
      case y57 =>
        have s0 := SS.c0; have s1 := SS.c1; have y0 := OX.c0; have y1 := OX.c1; have y2 := OX.c2; have y3 := OX.c3; have e42 := F56.ev 42 rfl; have g42 := F56.get 42 _ rfl
        go_simp; try with_reducible rfl
      clear F56 a56
      refine kTake (v := .bool false) F57 rfl rfl rfl rfl ?y58 (fun a58 F58 => ?h58)
      case y58 =>
        have e41 := F57.ev 41 rfl; have g41 := F57.get 41 _ rfl; have e43 := F57.ev 43 rfl; have g43 := F57.get 43 _ rfl
        first | (go_simp; done) | (go_simp; omega) | (go_simp; simp only [IntKind.wrap_i64]; omega)
      clear F57 a57
      refine kMove F58 rfl rfl rfl rfl rfl (fun a59 F59 => ?_)
      clear F58 a58
      refine kTake (v := ?v60) F59 rfl rfl rfl rfl ?y60 (fun a60 F60 => ?h60)
      case y60 =>
        have e6 := F59.ev 6 rfl; have g6 := F59.get 6 _ rfl
        go_simp; try with_reducible rfl
      clear F59 a59
      refine kTake (v := ?v61) F60 rfl rfl rfl rfl ?y61 (fun a61 F61 => ?h61)
      case y61 =>
        have s0 := SS.c0; have s1 := SS.c1; have y0 := OX.c0; have y1 := OX.c1; have y2 := OX.c2; have y3 := OX.c3; have e46 := F60.ev 46 rfl; have g46 := F60.get 46 _ rfl
        go_simp; try with_reducible rfl
      clear F60 a60
      refine kTake (v := ?v62) F61 rfl rfl rfl rfl ?y62 (fun a62 F62 => ?h62)
      case y62 =>
        have e1 := F61.ev 1 rfl; have g1 := F61.get 1 _ rfl
        go_simp; try with_reducible rfl
      clear F61 a61
      refine kTake (v := ?v63) F62 rfl rfl rfl rfl ?y63 (fun a63 F63 => ?h63)
      case y63 =>
        have s0 := SS.c0; have s1 := SS.c1; have y0 := OX.c0; have y1 := OX.c1; have y2 := OX.c2; have y3 := OX.c3; have e48 := F62.ev 48 rfl; have g48 := F62.get 48 _ rfl
        go_simp; try with_reducible rfl
      clear F62 a62
      refine kMove F63 rfl rfl rfl rfl rfl (fun a64 F64 => ?_)
      clear F63 a63
      refine kTake (v := .int .i64 (b.time + (i : Int))) F64 rfl rfl rfl rfl ?y65 (fun a65 F65 => ?h65)
      case y65 =>
        have e49 := F64.ev 49 rfl; have g49 := F64.get 49 _ rfl; have e50 := F64.ev 50 rfl; have g50 := F64.get 50 _ rfl
        first | (go_simp; done) | (go_simp; omega) | (go_simp; simp only [IntKind.wrap_i64]; omega)
      clear F64 a64
      refine kTake (v := .bool false) F65 rfl rfl rfl rfl ?y66 (fun a66 F66 => ?h66)
      case y66 =>
        have e47 := F65.ev 47 rfl; have g47 := F65.get 47 _ rfl; have e51 := F65.ev 51 rfl; have g51 := F65.get 51 _ rfl
        first | (go_simp; done) | (go_simp; omega) | (go_simp; simp only [IntKind.wrap_i64]; omega)
      clear F65 a65
      refine kMove F66 rfl rfl rfl rfl rfl (fun a67 F67 => ?_)
      clear F66 a66
      refine kMove F67 rfl rfl rfl rfl rfl (fun a68 F68 => ?_)
      clear F67 a67
      refine kTake (v := ?v69) F68 rfl rfl rfl rfl ?y69 (fun a69 F69 => ?h69)
      case y69 =>
        have e6 := F68.ev 6 rfl; have g6 := F68.get 6 _ rfl
        go_simp; try with_reducible rfl
      clear F68 a68
      refine kTake (v := ?v70) F69 rfl rfl rfl rfl ?y70 (fun a70 F70 => ?h70)
      case y70 =>
        have s0 := SS.c0; have s1 := SS.c1; have y0 := OX.c0; have y1 := OX.c1; have y2 := OX.c2; have y3 := OX.c3; have e55 := F69.ev 55 rfl; have g55 := F69.get 55 _ rfl
        go_simp; try with_reducible rfl
      clear F69 a69
      refine kTake (v := .bool false) F70 rfl rfl rfl rfl ?y71 (fun a71 F71 => ?h71)
      case y71 =>
        have e56 := F70.ev 56 rfl; have g56 := F70.get 56 _ rfl
        first | (go_simp; done) | (go_simp; omega) | (go_simp; simp only [IntKind.wrap_i64]; omega)
      clear F70 a70
      refine kMove F71 rfl rfl rfl rfl rfl (fun a72 F72 => ?_)
      clear F71 a71
      refine kMove F72 rfl rfl rfl rfl rfl (fun a73 F73 => ?_)
      clear F72 a72
      refine kTake (v := ?v74) F73 rfl rfl rfl rfl ?y74 (fun a74 F74 => ?h74)
      case y74 =>
        have e6 := F73.ev 6 rfl; have g6 := F73.get 6 _ rfl
        go_simp; try with_reducible rfl
      clear F73 a73
      refine kTake (v := ?v75) F74 rfl rfl rfl rfl ?y75 (fun a75 F75 => ?h75)
      case y75 =>
        have s0 := SS.c0; have s1 := SS.c1; have y0 := OX.c0; have y1 := OX.c1; have y2 := OX.c2; have y3 := OX.c3; have e60 := F74.ev 60 rfl; have g60 := F74.get 60 _ rfl
        go_simp; try with_reducible rfl
      clear F74 a74
      refine kTake (v := .bool false) F75 rfl rfl rfl rfl ?y76 (fun a76 F76 => ?h76)
      case y76 =>
        have e61 := F75.ev 61 rfl; have g61 := F75.get 61 _ rfl
        first | (go_simp; done) | (go_simp; omega) | (go_simp; simp only [IntKind.wrap_i64]; omega)
      clear F75 a75
      refine kMove F76 rfl rfl rfl rfl rfl (fun a77 F77 => ?_)
      clear F76 a76
      have F78 := F77.sub (l' := [(1, .pointer (some ⟨w.heap.size, 0, none⟩)), (3, .pointer (some ⟨OB, 0, none⟩)), (4, .int .i64 (n : Int)), (5, .int .i64 (i : Int)), (63, .bool false)]) ⟨rfl, rfl, rfl, rfl, rfl, trivial⟩
      clear F77
      refine kFin rfl ?_
      refine frNext ?_
      refine frCond (b := false) F78 rfl ?_
      simp only [Bool.false_eq_true, if_false]
      refine wp_skip ?_
      refine frBlkN ?_
      refine frNext ?_
      refine kGo ?_
      refine kMove F78 rfl rfl rfl rfl rfl (fun a79 F79 => ?_)
      clear F78 a77
      refine kTake (v := .int .i64 ((i + 1 : Nat) : Int)) F79 rfl rfl rfl rfl ?y80 (fun a80 F80 => ?h80)
      case y80 =>
        have e35 := F79.ev 35 rfl; have g35 := F79.get 35 _ rfl
        first | (go_simp; done) | (go_simp; simp only [IntKind.wrap_i64]; omega)
      clear F79 a79
      refine kMove F80 rfl rfl rfl rfl rfl (fun a81 F81 => ?_)
      clear F80 a80
      have F82 := F81.sub (l' := [(1, .pointer (some ⟨w.heap.size, 0, none⟩)), (3, .pointer (some ⟨OB, 0, none⟩)), (4, .int .i64 (n : Int)), (5, .int .i64 ((i + 1 : Nat) : Int))]) ⟨rfl, rfl, rfl, rfl, trivial⟩
      clear F81
      refine kFin rfl ?_
      refine frThenN ⟨⟨i + 1, by omega, F82, HS⟩, ?_⟩
      rw [show intOf (a81.tmps.getD 5 undef) = ((i + 1 : Nat) : Int) by rw [F82.ev 5 rfl]; rfl]
      omega
    · skip
      refine kGo ?_
      refine kMove FL rfl rfl rfl rfl rfl (fun a83 F83 => ?_)
      clear FL aL
      refine kMove F83 rfl rfl rfl rfl rfl (fun a84 F84 => ?_)
      clear F83 a83
      refine kTake (v := .bool false) F84 rfl rfl rfl rfl ?y85 (fun a85 F85 => ?h85)
      case y85 =>
        have e32 := F84.ev 32 rfl; have g32 := F84.get 32 _ rfl; have e33 := F84.ev 33 rfl; have g33 := F84.get 33 _ rfl
        first | (go_simp; done) | (go_simp; omega)
      clear F84 a84
      have F86 := F85.sub (l' := [(1, .pointer (some ⟨w.heap.size, 0, none⟩)), (3, .pointer (some ⟨OB, 0, none⟩)), (4, .int .i64 (n : Int)), (34, .bool false)]) ⟨rfl, rfl, rfl, rfl, trivial⟩
      clear F85
      refine kFin rfl ?_
      refine frNext ?_
      refine frCond (b := false) F86 rfl ?_
      simp only [Bool.false_eq_true, if_false]
      refine wp_exit ?_
      refine frThenE ?_
      refine frThenE ?_
      refine frBlkE ?_
      refine frNext ?_
      refine wp_seq ?_
      clear HS H5
      have F87 := F86.sub (l' := [(1, .pointer (some ⟨w.heap.size, 0, none⟩)), (3, .pointer (some ⟨OB, 0, none⟩)), (4, .int .i64 (n : Int))]) ⟨rfl, rfl, rfl, trivial⟩
      clear F86
      have HB7 := HB.drew
      have OO7 := OO
      replace HB := HB7
      clear HB7
      have hS : Below wL.heap.size wL wL.drew := (Below.refl _ wL).drew
      refine sGo (n := 24) (fun w' => Below wL.heap.size wL w') rfl (by kernel_rfl) (hS) ?_
      replace RG := RG.below hS
      replace OX := OX.below hS
      replace E := E.below hS
      replace OO := OO.below hS
      refine sFree 0 (v := btv b.rep b.seq b.time A2 n c2) F87 rfl rfl rfl rfl (by kernel_rfl) (by kernel_rfl) (by kernel_rfl) (fun _ d _ _ _ h => by cases d <;> exact h) hS ?y88 (fun a88 F88 => ?h88)
      case y88 =>
        intro wS hSw; have q := (OO7.below hSw).cs; have y0 := q.c0; have y1 := q.c1; have y2 := q.c2; have y3 := q.c3; clear q; have e3 := F87.ev 3 rfl; have g3 := F87.get 3 _ rfl
        go_simp; try with_reducible rfl
      clear F87 a85
      refine sFree 2 (v := btv b.rep b.seq b.time A2 n c2) F88 rfl rfl rfl rfl (by kernel_rfl) (by kernel_rfl) (by kernel_rfl) (fun _ d _ _ _ h => by cases d <;> exact h) hS ?y89 (fun a89 F89 => ?h89)
      case y89 =>
        intro wS hSw; have q := (OO7.below hSw).cs; have y0 := q.c0; have y1 := q.c1; have y2 := q.c2; have y3 := q.c3; clear q; have e3 := F88.ev 3 rfl; have g3 := F88.get 3 _ rfl
        go_simp; try with_reducible rfl
      clear F88 a88
      refine sMove 3 F89 rfl rfl rfl rfl (by kernel_rfl) (by kernel_rfl) (by kernel_rfl) (fun _ d _ _ _ h => by cases d <;> exact h) hS rfl (fun a90 F90 => ?_)
      clear F89 a89
      refine sFree 4 (v := .int .i64 ((n : Int) - 1)) F90 rfl rfl rfl rfl (by kernel_rfl) (by kernel_rfl) (by kernel_rfl) (fun _ d _ _ _ h => by cases d <;> exact h) hS ?y91 (fun a91 F91 => ?h91)
      case y91 =>
        intro wS hSw; have e67 := F90.ev 67 rfl; have g67 := F90.get 67 _ rfl
        first | (go_simp; done) | (go_simp; simp only [IntKind.wrap_i64]; omega)
      clear F90 a90
      refine sSolo 1 F91 rfl (by kernel_rfl) rfl (o1Call F91 rfl rfl (BEnd_any b A2 n c2 l2 _ E RG) ?y92 ?h92)
      case y92 =>
        have e64 := F91.ev 64 rfl; have g64 := F91.get 64 _ rfl
        go_simp; try with_reducible rfl
      rw [HST.out ((n : Int) - 1) (by omega) (by omega)]
      rintro e w8 ⟨rfl, hb⟩
      replace RG := RG.below hb
      replace OX := OX.below hb
      replace E := E.below hb
      replace OO := OO.below hb
      replace HB := below_then HB hb
      replace hS := below_then hS hb
      clear hb
      refine ⟨_, rfl, fun a92 F92 => ⟨hS, ?_⟩⟩
      clear F91 a91
      refine sSolo 5 F92 rfl (by kernel_rfl) rfl (o1Call F92 rfl rfl (BStamp_any b ((n : Int) - 1) A2 n c2 l2 _ E RG) ?y93 ?h93)
      case y93 =>
        have e66 := F92.ev 66 rfl; have g66 := F92.get 66 _ rfl; have e68 := F92.ev 68 rfl; have g68 := F92.get 68 _ rfl
        go_simp; try with_reducible rfl
      rw [HST.out ((n : Int) - 1) (by omega) (by omega)]
      rintro e w9 ⟨rfl, hb⟩
      replace RG := RG.below hb
      replace OX := OX.below hb
      replace E := E.below hb
      replace OO := OO.below hb
      replace HB := below_then HB hb
      replace hS := below_then hS hb
      clear hb
      refine ⟨_, rfl, fun a93 F93 => ⟨hS, ?_⟩⟩
      clear F92 a92
      refine sFree 6 (v := .bool true) F93 rfl rfl rfl rfl (by kernel_rfl) (by kernel_rfl) (by kernel_rfl) (fun _ d _ _ _ h => by cases d <;> exact h) hS ?y94 (fun a94 F94 => ?h94)
      case y94 =>
        intro wS hSw; have e65 := F93.ev 65 rfl; have g65 := F93.get 65 _ rfl; have e69 := F93.ev 69 rfl; have g69 := F93.get 69 _ rfl
        go_simp; try with_reducible rfl
      clear F93 a93
      refine sMove 7 F94 rfl rfl rfl rfl (by kernel_rfl) (by kernel_rfl) (by kernel_rfl) (fun _ d _ _ _ h => by cases d <;> exact h) hS rfl (fun a95 F95 => ?_)
      clear F94 a94
      refine sFree 8 (v := btv b.rep b.seq b.time A2 n c2) F95 rfl rfl rfl rfl (by kernel_rfl) (by kernel_rfl) (by kernel_rfl) (fun _ d _ _ _ h => by cases d <;> exact h) hS ?y96 (fun a96 F96 => ?h96)
      case y96 =>
        intro wS hSw; have q := (OO7.below hSw).cs; have y0 := q.c0; have y1 := q.c1; have y2 := q.c2; have y3 := q.c3; clear q; have e3 := F95.ev 3 rfl; have g3 := F95.get 3 _ rfl
        go_simp; try with_reducible rfl
      clear F95 a95
      refine sMove 9 F96 rfl rfl rfl rfl (by kernel_rfl) (by kernel_rfl) (by kernel_rfl) (fun _ d _ _ _ h => by cases d <;> exact h) hS rfl (fun a97 F97 => ?_)
      clear F96 a96
      refine sFree 11 (v := stv 0 0) F97 rfl rfl rfl rfl (by kernel_rfl) (by kernel_rfl) (by kernel_rfl) (fun _ d _ _ _ h => by cases d <;> exact h) hS ?y98 (fun a98 F98 => ?h98)
      case y98 =>
        intro wS hSw; skip
        go_simp; try with_reducible rfl
      clear F97 a97
      refine sSolo 10 F98 rfl (by kernel_rfl) rfl (o1Call F98 rfl rfl (BStamp_any b (n : Int) A2 n c2 l2 _ E RG) ?y99 ?h99)
      case y99 =>
        have e72 := F98.ev 72 rfl; have g72 := F98.get 72 _ rfl; have e73 := F98.ev 73 rfl; have g73 := F98.get 73 _ rfl
        go_simp; try with_reducible rfl
      rw [HSN.out (n : Int) (by omega)]
      rintro e w10 ⟨rfl, hb⟩
      replace RG := RG.below hb
      replace OX := OX.below hb
      replace E := E.below hb
      replace OO := OO.below hb
      replace HB := below_then HB hb
      replace hS := below_then hS hb
      clear hb
      refine ⟨_, rfl, fun a99 F99 => ⟨hS, ?_⟩⟩
      clear F98 a98
      refine sFree 12 (v := .bool true) F99 rfl rfl rfl rfl (by kernel_rfl) (by kernel_rfl) (by kernel_rfl) (fun _ d _ _ _ h => by cases d <;> exact h) hS ?y100 (fun a100 F100 => ?h100)
      case y100 =>
        intro wS hSw; have e74 := F99.ev 74 rfl; have g74 := F99.get 74 _ rfl; have e75 := F99.ev 75 rfl; have g75 := F99.get 75 _ rfl
        go_simp; try with_reducible rfl
      clear F99 a99
      refine sMove 13 F100 rfl rfl rfl rfl (by kernel_rfl) (by kernel_rfl) (by kernel_rfl) (fun _ d _ _ _ h => by cases d <;> exact h) hS rfl (fun a101 F101 => ?_)
      clear F100 a100
      refine sMove 14 F101 rfl rfl rfl rfl (by kernel_rfl) (by kernel_rfl) (by kernel_rfl) (fun _ d _ _ _ h => by cases d <;> exact h) hS rfl (fun a102 F102 => ?_)
      clear F101 a101
      refine sFree 15 (v := btv b.rep b.seq b.time A2 n c2) F102 rfl rfl rfl rfl (by kernel_rfl) (by kernel_rfl) (by kernel_rfl) (fun _ d _ _ _ h => by cases d <;> exact h) hS ?y103 (fun a103 F103 => ?h103)
      case y103 =>
        intro wS hSw; have q := (OO7.below hSw).cs; have y0 := q.c0; have y1 := q.c1; have y2 := q.c2; have y3 := q.c3; clear q; have e3 := F102.ev 3 rfl; have g3 := F102.get 3 _ rfl
        go_simp; try with_reducible rfl
      clear F102 a102
      refine sFree 17 (v := stv 0 0) F103 rfl rfl rfl rfl (by kernel_rfl) (by kernel_rfl) (by kernel_rfl) (fun _ d _ _ _ h => by cases d <;> exact h) hS ?y104 (fun a104 F104 => ?h104)
      case y104 =>
        intro wS hSw; skip
        go_simp; try with_reducible rfl
      clear F103 a103
      refine sSolo 16 F104 rfl (by kernel_rfl) rfl (o1Call F104 rfl rfl (BStamp_any b (-1) A2 n c2 l2 _ E RG) ?y105 ?h105)
      case y105 =>
        have e79 := F104.ev 79 rfl; have g79 := F104.get 79 _ rfl
        go_simp; try with_reducible rfl
      rw [HSN.out (-1) (by omega)]
      rintro e w11 ⟨rfl, hb⟩
      replace RG := RG.below hb
      replace OX := OX.below hb
      replace E := E.below hb
      replace OO := OO.below hb
      replace HB := below_then HB hb
      replace hS := below_then hS hb
      clear hb
      refine ⟨_, rfl, fun a105 F105 => ⟨hS, ?_⟩⟩
      clear F104 a104
      refine sFree 18 (v := .bool true) F105 rfl rfl rfl rfl (by kernel_rfl) (by kernel_rfl) (by kernel_rfl) (fun _ d _ _ _ h => by cases d <;> exact h) hS ?y106 (fun a106 F106 => ?h106)
      case y106 =>
        intro wS hSw; have e80 := F105.ev 80 rfl; have g80 := F105.get 80 _ rfl; have e81 := F105.ev 81 rfl; have g81 := F105.get 81 _ rfl
        go_simp; try with_reducible rfl
      clear F105 a105
      refine sMove 19 F106 rfl rfl rfl rfl (by kernel_rfl) (by kernel_rfl) (by kernel_rfl) (fun _ d _ _ _ h => by cases d <;> exact h) hS rfl (fun a107 F107 => ?_)
      clear F106 a106
      refine sMove 20 F107 rfl rfl rfl rfl (by kernel_rfl) (by kernel_rfl) (by kernel_rfl) (fun _ d _ _ _ h => by cases d <;> exact h) hS rfl (fun a108 F108 => ?_)
      clear F107 a107
      refine sSolo 21 F108 rfl (by kernel_rfl) rfl (o1Call F108 rfl rfl (knows8_any _ RG) ?y109 ?h109)
      case y109 =>
        skip
        go_simp; try with_reducible rfl
      rintro e w12 ⟨rfl, hb⟩
      replace RG := RG.below hb
      replace OX := OX.below hb
      replace E := E.below hb
      replace OO := OO.below hb
      replace HB := below_then HB hb
      replace hS := below_then hS hb
      clear hb
      refine ⟨_, rfl, fun a109 F109 => ⟨hS, ?_⟩⟩
      clear F108 a108
      refine sMove 22 F109 rfl rfl rfl rfl (by kernel_rfl) (by kernel_rfl) (by kernel_rfl) (fun _ d _ _ _ h => by cases d <;> exact h) hS rfl (fun a110 F110 => ?_)
      clear F109 a109
      refine sMove 23 F110 rfl rfl rfl rfl (by kernel_rfl) (by kernel_rfl) (by kernel_rfl) (fun _ d _ _ _ h => by cases d <;> exact h) hS rfl (fun a111 F111 => ?_)
      clear F110 a110
      refine sFin (by kernel_rfl) ?_
      refine frNext ?_
      refine wp_ret ?_
      exact frRet1 rfl F111 rfl ⟨rfl, HB⟩
end Go.Proofs.YtnakanophilfhaaDoor
/- ShB: Batches, as they come in: their shape, read as plain data. -/
namespace Go.Proofs.YtnakanophilfhaaDoor
open Go.RowKit Go.Dio
set_option linter.unusedVariables false
set_option linter.unusedSimpArgs false
theorem ov_inv : ∀ (l : List OpV) (k : Nat) (u : Value), (ov l)[k]? = some u → ∃ i j p, k = i * 12 + j ∧ l[i]? = some p ∧ (ox p)[j]? = some u
  | [], k, u, h => by simp [ov] at h
  | p :: l, k, u, h => by
    simp only [ov] at h
    by_cases hk : k < 12
    · rw [List.getElem?_append_left (by show k < 12; exact hk)] at h
      exact ⟨0, k, p, by omega, rfl, by simpa using h⟩
    · rw [List.getElem?_append_right (by show 12 ≤ k; omega)] at h
      obtain ⟨i, j, q, e, hq, hj⟩ := ov_inv l (k - 12) u h
      exact ⟨i + 1, j, q, by omega, by simpa using hq, hj⟩
/-- A batch's shape. -/
@[reducible] def shBatch : Sh := .pair (.int .i64) (.pair (.int .i64) (.pair (.int .i64) (.pair (.slice shOp) .unit)))
theorem ops_of {w : World} {cs : List Value} {x : (Sh.slice shOp).T} (h : (Sh.slice shOp).reads w cs x) : ∃ A n c l, cs = [.slice A n c] ∧ IsOps w A n c l := by
  obtain ⟨A, n, c, rfl, hl, hn, hc, hr⟩ := h
  rcases hr with rfl | ⟨b, o, rfl, hr⟩
  · exact ⟨A, n, c, [], rfl, hl, hn, hc, .inl rfl, fun p hp => by cases hp⟩
  · have ex : ∀ i : Nat, i < n → ∃ p : OpV, (∀ j v, (ox p)[j]? = some v → w.cell? ⟨b, o + i * 12 + j, none⟩ = some v) ∧ OpIs w p.d p.A p.n p.c := fun i hi => by
      obtain ⟨cs, h1, h2, h3⟩ := hr i (x[i]'(by omega)) (List.getElem?_eq_getElem (by omega))
      obtain ⟨d, A', n', c', rfl, h4⟩ := op_cells h3
      exact ⟨⟨d, A', n', c'⟩, fun j v hv => h2 j v (by simpa using hv), h4⟩
    obtain ⟨f, hf⟩ : ∃ f : Nat → OpV, ∀ i, i < n → (∀ j v, (ox (f i))[j]? = some v → w.cell? ⟨b, o + i * 12 + j, none⟩ = some v) ∧ OpIs w (f i).d (f i).A (f i).n (f i).c :=
      ⟨fun i => if hi : i < n then (ex i hi).choose else ⟨⟨0, 0, 0, 0, 0, ⟨#[]⟩, [], 0, 0, 0, ⟨#[]⟩, false⟩, none, 0, 0⟩, fun i hi => by simp only [hi, dif_pos]; exact (ex i hi).choose_spec⟩
    refine ⟨some ⟨b, o, none⟩, n, c, (List.range n).map f, rfl, by simp, hn, hc, .inr ⟨b, o, rfl, fun k u hu => ?_⟩, fun p hp => ?_⟩
    · obtain ⟨i, j, p, rfl, hp, hj⟩ := ov_inv _ k u hu
      rw [List.getElem?_map, Option.map_eq_some_iff] at hp
      obtain ⟨i', hi', rfl⟩ := hp
      obtain ⟨q1, q2⟩ := List.getElem?_eq_some_iff.1 hi'
      simp at q1 q2
      subst q2
      rw [← Nat.add_assoc]
      exact (hf i q1).1 j u hj
    · obtain ⟨i, hi, rfl⟩ := List.mem_map.1 hp
      exact (hf i (by simpa using hi)).2
theorem batch_cut {w : World} {a : Array Value} {x : shBatch.T} (h : shBatch.reads w a.toList x) : ∃ b A n c l, a = bxs b.rep b.seq b.time A n c ∧ BtIs w b A n c l := by
  obtain ⟨c1, c2, h0, ⟨rfl, _⟩, c3, c4, rfl, ⟨rfl, _⟩, c5, c6, rfl, ⟨rfl, _⟩, c7, c8, rfl, ho, hu⟩ := h
  obtain ⟨A, n, c, l, rfl, hl⟩ := ops_of ho
  have e4 : c8 = [] := hu
  subst e4
  exact ⟨⟨x.1, x.2.1, x.2.2.1, l.map OpV.d⟩, A, n, c, l, Array.toList_inj.1 h0, hl, rfl⟩
end Go.Proofs.YtnakanophilfhaaDoor
/- RwBS: BatchStamps, of what comes in. -/
namespace Go.Proofs.YtnakanophilfhaaDoor
open Go.RowKit Go.Dio
set_option linter.unusedVariables false
set_option linter.unusedSimpArgs false
theorem BatchStamps_row (a : Array Value) (x : shBatch.T) (w : World) (h : shBatch.reads w a.toList x) (hg : RootsAt w) :
    Calls Tryd.prog 8 #[.agg a] w fun e w' => e = .returned (.bool true) ∧ Below w.heap.size w w' := by
  obtain ⟨b, A, n, c, l, rfl, h1⟩ := batch_cut h
  exact BatchStamps_walk b A n c l w h1 hg
end Go.Proofs.YtnakanophilfhaaDoor
