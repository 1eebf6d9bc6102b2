/- Layer 7: op.Right tells what its seven conditions tell. -/
import Derived.Test.YtnakanophilfhaaDoorOpB
import Derived.Test.YtnakanophilfhaaDoorVfE
import Derived.Test.YtnakanophilfhaaDoorFr
namespace Go.Proofs.YtnakanophilfhaaDoor
open Go.RowKit Go.Dio
set_option linter.unusedVariables false
set_option linter.unusedSimpArgs false

set_option maxRecDepth 100000 in
set_option maxHeartbeats 40000000 in
theorem ORight_any (k n1 n2 r1 r2 : Int) (key : ByteArray) (path : List (Int × Int)) (prop vk vn : Int) (vt : ByteArray) (on : Bool) (A : Option Addr) (n c : Nat) (w : World) (hl : IsSt w A n c path) (hg : RootsAt w) (ht : vt.size ≤ 9223372036854775807) (hk : key.size ≤ 9223372036854775807) :
    Calls Tryd.prog 29 #[opv ⟨k, n1, n2, r1, r2, key, path, prop, vk, vn, vt, on⟩ A n c] w fun e w' => e = .returned (.bool (oright ⟨k, n1, n2, r1, r2, key, path, prop, vk, vn, vt, on⟩)) ∧ Below w.heap.size w w' := by
  have hln := hl.len
  obtain ⟨dd, hdd⟩ : ∃ dd, OpD.mk k n1 n2 r1 r2 key path prop vk vn vt on = dd := ⟨_, rfl⟩
  have hR : oright ⟨k, n1, n2, r1, r2, key, path, prop, vk, vn, vt, on⟩ = oright dd := by rw [hdd]
  rw [hR]
  clear hR
  have O1 := hid (OAt.new w ⟨k, n1, n2, r1, r2, key, path, prop, vk, vn, vt, on⟩ A n c _ rfl)
  have H1 := hid (below_alloc1 w (oo ⟨k, n1, n2, r1, r2, key, path, prop, vk, vn, vt, on⟩ A n c))
  have L1 := hid (hl.below H1.out)
  have G1 := hid (hg.below H1.out)
  clear hl hg
  have FO := hid (show oright dd = (oc1 dd && oc2 dd && oc3 dd && oc4 dd && oc5 dd && oc6 dd && oc7 dd) from rfl)
  generalize hb1 : pNode k = b1
  generalize hb2 : pRef k = b2
  generalize hb3 : pKey k = b3
  generalize hb4 : pPath k = b4
  generalize hb5 : pProp k = b5
  generalize hb6 : pOn k = b6
  have HP := hid (show partsV k = .tuple #[.bool b1, .bool b2, .bool b3, .bool b4, .bool b5, .bool b6] by unfold partsV; rw [hb1, hb2, hb3, hb4, hb5, hb6])
  obtain ⟨to, hto⟩ : ∃ to, to = opTo dd := ⟨_, rfl⟩
  obtain ⟨way, hway⟩ : ∃ way, way = opWay dd := ⟨_, rfl⟩
  obtain ⟨e4, he4⟩ : ∃ e4, e4 = decide (key.data.toList = []) := ⟨_, rfl⟩
  obtain ⟨e5, he5⟩ : ∃ e5, e5 = decide (path.length = 0) := ⟨_, rfl⟩
  have HE4 := hid (show key.toList.isEmpty = e4 by rw [he4, ByteArray.toList_eq]; cases key.data.toList <;> simp)
  have HE5 := hid (show ((n : Int) == 0) = e5 by rw [he5, hln, Bool.eq_iff_iff]; simp)
  have HVZ := hid (show vzero vk vn vt = (decide (vk = 0) && (decide (vn = 0) && vt.toList.isEmpty)) by
    unfold vzero; rw [Bool.eq_iff_iff, ByteArray.toList_eq]; simp)
  have FC1 := hid (show oc1 dd = (b1 || b2) by rw [← hdd, ← hb1, ← hb2]; rfl)
  have FC2 := hid (show oc2 dd = fits b1 (isRoot n1 n2) (sNode n1 n2) by rw [← hdd, ← hb1]; rfl)
  have FC3 := hid (show oc3 dd = fits b2 (isRoot r1 r2) to by rw [hto, ← hdd, ← hb2]; rfl)
  have FC4 := hid (show oc4 dd = fits b3 e4 (keyR key) by rw [he4, ← hdd, ← hb3]; rfl)
  have FC5 := hid (show oc5 dd = fits b4 e5 way by rw [hway, he5, ← hdd, ← hb4]; rfl)
  have FC6 := hid (show oc6 dd = fits b5 (decide (prop = 0) && vzero vk vn vt) (vright8 prop vk vn vt) by rw [← hdd, ← hb5]; rfl)
  have FC7 := hid (show oc7 dd = (b6 || !on) by rw [← hdd, ← hb6]; rfl)
  have FT := hid (show to = if k = 5 then sNode r1 r2 || isRoot r1 r2 else sPlace r1 r2 by rw [hto, ← hdd]; rfl)
  have FW := hid (show way = (decide (0 < n) && decide (n ≤ 8) && allN path) by rw [hway, ← hdd, ← hln]; rfl)
  have HLN := hid hln
  clear hb1 hb2 hb3 hb4 hb5 hb6 hto hway he4 he5 hdd hln
  refine frCall (args := [opv ⟨k, n1, n2, r1, r2, key, path, prop, vk, vn, vt, on⟩ A n c]) (N := 127) Tryd.func29 rfl rfl rfl (fun a0 F0 => ?_)
  refine wp_seq ?_
  refine kGo ?_
  refine kVal (v := ?v1) (w' := w.alloc (oo ⟨k, n1, n2, r1, r2, key, path, prop, vk, vn, vt, on⟩ A n c)) F0 rfl rfl rfl rfl ?y1 (fun a1 F1 => ?h1)
  case y1 =>
    have e0 := F0.ev 0 rfl; have g0 := F0.get 0 _ rfl
    go_simp; try with_reducible rfl
  clear F0 a0
  refine kMove F1 rfl rfl rfl rfl rfl (fun a2 F2 => ?_)
  clear F1 a1
  have F3 := F2.sub (l' := [(1, .pointer (some ⟨w.heap.size, 0, none⟩))]) ⟨rfl, trivial⟩
  clear F2
  refine kFin rfl ?_
  refine frNext ?_
  refine wp_seq ?_
  have hS : Below (w.alloc (oo ⟨k, n1, n2, r1, r2, key, path, prop, vk, vn, vt, on⟩ A n c)).heap.size (w.alloc (oo ⟨k, n1, n2, r1, r2, key, path, prop, vk, vn, vt, on⟩ A n c)) (w.alloc (oo ⟨k, n1, n2, r1, r2, key, path, prop, vk, vn, vt, on⟩ A n c)) := Below.refl _ _
  generalize hbs : w.heap.size = b at *
  have HB := hid hbs
  clear hbs
  generalize w.alloc (oo ⟨k, n1, n2, r1, r2, key, path, prop, vk, vn, vt, on⟩ A n c) = w1 at *
  refine kGo ?_
  refine kTake (v := ?v4) F3 rfl rfl rfl rfl ?y4 (fun a4 F4 => ?h4)
  case y4 =>
    have e1 := F3.ev 1 rfl; have g1 := F3.get 1 _ rfl
    go_simp; try with_reducible rfl
  clear F3 a2
  refine kTake (v := ?v5) F4 rfl rfl rfl rfl ?y5 (fun a5 F5 => ?h5)
  case y5 =>
    have q := (O1.out.below hS).cs; have y0 := q.c0; clear q; have e13 := F4.ev 13 rfl; have g13 := F4.get 13 _ rfl
    go_simp; try with_reducible rfl
  clear F4 a4
  refine kCall F5 rfl rfl rfl rfl (parts_any k _) ?y6 ?h6
  case y6 =>
    have e14 := F5.ev 14 rfl; have g14 := F5.get 14 _ rfl
    go_simp; try with_reducible rfl
  rw [HP.out]
  rintro e wN ⟨rfl, rfl⟩
  refine ⟨_, rfl, fun a6 F6 => ?_⟩
  clear F5 a5
  refine kMove F6 rfl rfl rfl rfl rfl (fun a7 F7 => ?_)
  clear F6 a6
  refine kRuns 12 F7 rfl (fun a8 F8 => ?_)
  clear F7 a7
  have F9 := F8.sub (l' := [(1, .pointer (some ⟨b, 0, none⟩)), (3, .bool b1), (4, .bool b2), (5, .bool b3), (6, .bool b4), (7, .bool b5), (8, .bool b6)]) ⟨rfl, rfl, rfl, rfl, rfl, rfl, rfl, trivial⟩
  clear F8
  refine kFin rfl ?_
  refine frNext ?_
  refine wp_seq ?_
  refine kGo ?_
  refine kMove F9 rfl rfl rfl rfl rfl (fun a10 F10 => ?_)
  clear F9 a8
  refine kFin rfl ?_
  refine frNext ?_
  refine wp_seq ?_
  refine kGo ?_
  refine kTake (v := ?v11) F10 rfl rfl rfl rfl ?y11 (fun a11 F11 => ?h11)
  case y11 =>
    have e1 := F10.ev 1 rfl; have g1 := F10.get 1 _ rfl
    go_simp; try with_reducible rfl
  clear F10 a10
  refine kTake (v := ?v12) F11 rfl rfl rfl rfl ?y12 (fun a12 F12 => ?h12)
  case y12 =>
    have q := (O1.out.below hS).cs; have y3 := q.c3; have y4 := q.c4; clear q; have e22 := F11.ev 22 rfl; have g22 := F11.get 22 _ rfl
    go_simp; try with_reducible rfl
  clear F11 a11
  refine kCall F12 rfl rfl rfl rfl (Place_any r1 r2 _ (G1.out.below hS)) ?y13 ?h13
  case y13 =>
    have e23 := F12.ev 23 rfl; have g23 := F12.get 23 _ rfl
    go_simp; try with_reducible rfl
  rintro e wN ⟨rfl, hb⟩
  replace hS := below_then hS hb
  clear hb
  refine ⟨_, rfl, fun a13 F13 => ?_⟩
  clear F12 a12
  refine kMove F13 rfl rfl rfl rfl rfl (fun a14 F14 => ?_)
  clear F13 a13
  refine kFin rfl ?_
  refine frNext ?_
  refine wp_seq_k (fun K1 k1 => ?_)
  have J1 : ∀ a w', Fr a 127 [(1, .pointer (some ⟨b, 0, none⟩)), (3, .bool b1), (4, .bool b2), (5, .bool b3), (6, .bool b4), (7, .bool b5), (8, .bool b6), (9, .func (.func 76) #[] #[]), (10, .bool to)] → Below w1.heap.size w1 w' → K1 a w' := by
    clear F14 a14
    intro aJ wJ FJ hS
    refine k1 _ _ ?_
    clear k1 K1 FT
    refine wp_seq_k (fun K2 k2 => ?_)
    have J2 : ∀ a w', Fr a 127 [(1, .pointer (some ⟨b, 0, none⟩)), (3, .bool b1), (4, .bool b2), (5, .bool b3), (6, .bool b4), (7, .bool b5), (8, .bool b6), (9, .func (.func 76) #[] #[]), (10, .bool to), (11, .bool way)] → Below w1.heap.size w1 w' → K2 a w' := by
      clear FJ aJ
      intro aL wL FL hS
      refine k2 _ _ ?_
      clear k2 K2 FW
      refine wp_seq_k (fun K3 k3 => ?_)
      have J3 : ∀ a w' v, Fr a 127 [(2, .bool v)] → oright dd = v → Below w1.heap.size w1 w' → K3 a w' := by
        intro a w' v F h hS
        refine k3 _ _ ?_
        have hbs := HB.out
        subst hbs
        exact wp_ret (frRet1 rfl F rfl ⟨by rw [h], below_then H1.out hS⟩)
      clear k3
      have hS0 := hS.drew
      refine hGo [13, 14, 24, 34, 35, 45, 63, 64] (fun w' => Below w1.heap.size w1 w') (by kernel_rfl) (by kernel_rfl) (by kernel_rfl) (fun _ d _ _ _ h => by cases d <;> exact h) (hS0) ?_
      replace hS := hS0
      clear hS0
      rcases hc1 : oc1 dd with _ | _
      · skip
        have FF : oright dd = false := by rw [FO.out, hc1]; rfl
        rw [FC1.out] at hc1
        have z1 : b1 = false := by rcases b1 with _ | _ <;> simp_all
        have z2 : b2 = false := by rcases b2 with _ | _ <;> simp_all
        subst z1; subst z2
        refine hRuns 80 FL rfl (fun a15 F15 => ?_)
        clear FL aL
        have F16 := F15.sub (l' := [(2, .bool false)]) ⟨rfl, trivial⟩
        clear F15
        refine hFin rfl ?_
        exact J3 _ _ _ F16 FF hS
      have C1 := hid hc1
      clear hc1
      refine hJoin 5 [(1, .pointer (some ⟨b, 0, none⟩)), (3, .bool b1), (4, .bool b2), (5, .bool b3), (6, .bool b4), (7, .bool b5), (8, .bool b6), (9, .func (.func 76) #[] #[]), (10, .bool to), (11, .bool way), (57, .bool true)] 127 ?j5 (fun J5 => ?m5)
      case m5 =>
        rcases b1 with _ | _
        · skip
          rcases b2 with _ | _
          · skip
            exact absurd (C1.out.symm.trans FC1.out) (by simp)
          · skip
            refine hMove FL rfl rfl rfl rfl rfl rfl (fun a17 F17 => ?_)
            clear FL aL
            refine hMove F17 rfl rfl rfl rfl rfl rfl (fun a18 F18 => ?_)
            clear F17 a17
            refine hMove F18 rfl rfl rfl rfl rfl rfl (fun a19 F19 => ?_)
            clear F18 a18
            refine hMove F19 rfl rfl rfl rfl rfl rfl (fun a20 F20 => ?_)
            clear F19 a19
            refine hMove F20 rfl rfl rfl rfl rfl rfl (fun a21 F21 => ?_)
            clear F20 a20
            have F22 := F21.sub (l' := [(1, .pointer (some ⟨b, 0, none⟩)), (3, .bool false), (4, .bool true), (5, .bool b3), (6, .bool b4), (7, .bool b5), (8, .bool b6), (9, .func (.func 76) #[] #[]), (10, .bool to), (11, .bool way), (57, .bool true)]) ⟨rfl, rfl, rfl, rfl, rfl, rfl, rfl, rfl, rfl, rfl, rfl, trivial⟩
            clear F21
            exact J5 _ _ F22 hS
        · skip
          refine hMove FL rfl rfl rfl rfl rfl rfl (fun a23 F23 => ?_)
          clear FL aL
          refine hMove F23 rfl rfl rfl rfl rfl rfl (fun a24 F24 => ?_)
          clear F23 a23
          refine hNot F24 rfl rfl rfl rfl (fun a25 F25 => ?_)
          clear F24 a24
          refine hMove F25 rfl rfl rfl rfl rfl rfl (fun a26 F26 => ?_)
          clear F25 a25
          refine hMove F26 rfl rfl rfl rfl rfl rfl (fun a27 F27 => ?_)
          clear F26 a26
          have F28 := F27.sub (l' := [(1, .pointer (some ⟨b, 0, none⟩)), (3, .bool true), (4, .bool b2), (5, .bool b3), (6, .bool b4), (7, .bool b5), (8, .bool b6), (9, .func (.func 76) #[] #[]), (10, .bool to), (11, .bool way), (57, .bool true)]) ⟨rfl, rfl, rfl, rfl, rfl, rfl, rfl, rfl, rfl, rfl, rfl, trivial⟩
          clear F27
          exact J5 _ _ F28 hS
      clear FL aL
      intro aJ5 wJ5 FJ5 hS5
      replace hS := hS5
      clear hS5
      refine hMove FJ5 rfl rfl rfl rfl rfl rfl (fun a29 F29 => ?_)
      clear FJ5 aJ5
      refine hMove F29 rfl rfl rfl rfl rfl rfl (fun a30 F30 => ?_)
      clear F29 a29
      refine hTake (v := ?v31) F30 rfl rfl rfl rfl rfl ?y31 (fun a31 F31 => ?h31)
      case y31 =>
        intro wS hSw; have e1 := F30.ev 1 rfl; have g1 := F30.get 1 _ rfl
        go_simp; try with_reducible rfl
      clear F30 a30
      refine hTake (v := ?v32) F31 rfl rfl rfl rfl rfl ?y32 (fun a32 F32 => ?h32)
      case y32 =>
        intro wS hSw; have q := (O1.out.below hSw).cs; have y1 := q.c1; have y2 := q.c2; clear q; have e60 := F31.ev 60 rfl; have g60 := F31.get 60 _ rfl
        go_simp; try with_reducible rfl
      clear F31 a31
      refine hTake (v := ?v33) F32 rfl rfl rfl rfl rfl ?y33 (fun a33 F33 => ?h33)
      case y33 =>
        intro wS hSw; skip
        go_simp; try with_reducible rfl
      clear F32 a32
      refine hTake (v := .bool (isRoot n1 n2)) F33 rfl rfl rfl rfl rfl ?y34 (fun a34 F34 => ?h34)
      case y34 =>
        intro wS hSw; have e61 := F33.ev 61 rfl; have g61 := F33.get 61 _ rfl; have e62 := F33.ev 62 rfl; have g62 := F33.get 62 _ rfl
        go_simp
        by_cases qa : n1 = 0 <;> by_cases qb : n2 = 0 <;> simp [isRoot, qa, qb]
      clear F33 a33
      refine hTake (v := ?v35) F34 rfl rfl rfl rfl rfl ?y35 (fun a35 F35 => ?h35)
      case y35 =>
        intro wS hSw; have e1 := F34.ev 1 rfl; have g1 := F34.get 1 _ rfl
        go_simp; try with_reducible rfl
      clear F34 a34
      refine hTake (v := ?v36) F35 rfl rfl rfl rfl rfl ?y36 (fun a36 F36 => ?h36)
      case y36 =>
        intro wS hSw; have q := (O1.out.below hSw).cs; have y1 := q.c1; have y2 := q.c2; clear q; have e64 := F35.ev 64 rfl; have g64 := F35.get 64 _ rfl
        go_simp; try with_reducible rfl
      clear F35 a35
      refine hCall F36 rfl rfl rfl rfl rfl (Node_any n1 n2 _) ?y37 ?h37
      case y37 =>
        have e65 := F36.ev 65 rfl; have g65 := F36.get 65 _ rfl
        go_simp; try with_reducible rfl
      rintro e wN ⟨rfl, hb⟩
      replace hS := below_then hS hb
      clear hb
      refine ⟨_, rfl, hS, fun a37 F37 => ?_⟩
      clear F36 a36
      refine hCall F37 rfl rfl rfl rfl rfl (fits_any b1 (isRoot n1 n2) (sNode n1 n2) _) ?y38 ?h38
      case y38 =>
        have e58 := F37.ev 58 rfl; have g58 := F37.get 58 _ rfl; have e59 := F37.ev 59 rfl; have g59 := F37.get 59 _ rfl; have e63 := F37.ev 63 rfl; have g63 := F37.get 63 _ rfl; have e66 := F37.ev 66 rfl; have g66 := F37.get 66 _ rfl
        go_simp; try with_reducible rfl
      rw [← FC2.out]
      rintro e wN ⟨rfl, rfl⟩
      rcases hc2 : oc2 dd with _ | _
      · skip
        refine ⟨_, rfl, hS, fun a38 F38 => ?_⟩
        clear F37 a37
        have FF : oright dd = false := by rw [FO.out, hc2]; simp
        refine hRuns 80 F38 rfl (fun a39 F39 => ?_)
        clear F38 a38
        have F40 := F39.sub (l' := [(2, .bool false)]) ⟨rfl, trivial⟩
        clear F39
        refine hFin rfl ?_
        exact J3 _ _ _ F40 FF hS
      · skip
        refine ⟨_, rfl, hS, fun a38 F38 => ?_⟩
        clear F37 a37
        have C2 := hid hc2
        clear hc2
        refine hMove F38 rfl rfl rfl rfl rfl rfl (fun a41 F41 => ?_)
        clear F38 a38
        refine hMove F41 rfl rfl rfl rfl rfl rfl (fun a42 F42 => ?_)
        clear F41 a41
        have F43 := F42.sub (l' := [(1, .pointer (some ⟨b, 0, none⟩)), (3, .bool b1), (4, .bool b2), (5, .bool b3), (6, .bool b4), (7, .bool b5), (8, .bool b6), (9, .func (.func 76) #[] #[]), (10, .bool to), (11, .bool way), (69, .bool true)]) ⟨rfl, rfl, rfl, rfl, rfl, rfl, rfl, rfl, rfl, rfl, rfl, trivial⟩
        clear F42
        refine hMove F43 rfl rfl rfl rfl rfl rfl (fun a44 F44 => ?_)
        clear F43 a42
        refine hMove F44 rfl rfl rfl rfl rfl rfl (fun a45 F45 => ?_)
        clear F44 a44
        refine hTake (v := ?v46) F45 rfl rfl rfl rfl rfl ?y46 (fun a46 F46 => ?h46)
        case y46 =>
          intro wS hSw; have e1 := F45.ev 1 rfl; have g1 := F45.get 1 _ rfl
          go_simp; try with_reducible rfl
        clear F45 a45
        refine hTake (v := ?v47) F46 rfl rfl rfl rfl rfl ?y47 (fun a47 F47 => ?h47)
        case y47 =>
          intro wS hSw; have q := (O1.out.below hSw).cs; have y3 := q.c3; have y4 := q.c4; clear q; have e72 := F46.ev 72 rfl; have g72 := F46.get 72 _ rfl
          go_simp; try with_reducible rfl
        clear F46 a46
        refine hTake (v := ?v48) F47 rfl rfl rfl rfl rfl ?y48 (fun a48 F48 => ?h48)
        case y48 =>
          intro wS hSw; skip
          go_simp; try with_reducible rfl
        clear F47 a47
        refine hTake (v := .bool (isRoot r1 r2)) F48 rfl rfl rfl rfl rfl ?y49 (fun a49 F49 => ?h49)
        case y49 =>
          intro wS hSw; have e73 := F48.ev 73 rfl; have g73 := F48.get 73 _ rfl; have e74 := F48.ev 74 rfl; have g74 := F48.get 74 _ rfl
          go_simp
          by_cases qa : r1 = 0 <;> by_cases qb : r2 = 0 <;> simp [isRoot, qa, qb]
        clear F48 a48
        refine hMove F49 rfl rfl rfl rfl rfl rfl (fun a50 F50 => ?_)
        clear F49 a49
        refine hCall F50 rfl rfl rfl rfl rfl (fits_any b2 (isRoot r1 r2) to _) ?y51 ?h51
        case y51 =>
          have e70 := F50.ev 70 rfl; have g70 := F50.get 70 _ rfl; have e71 := F50.ev 71 rfl; have g71 := F50.get 71 _ rfl; have e75 := F50.ev 75 rfl; have g75 := F50.get 75 _ rfl; have e76 := F50.ev 76 rfl; have g76 := F50.get 76 _ rfl
          go_simp; try with_reducible rfl
        rw [← FC3.out]
        rintro e wN ⟨rfl, rfl⟩
        rcases hc3 : oc3 dd with _ | _
        · skip
          refine ⟨_, rfl, hS, fun a51 F51 => ?_⟩
          clear F50 a50
          have FF : oright dd = false := by rw [FO.out, hc3]; simp
          refine hRuns 80 F51 rfl (fun a52 F52 => ?_)
          clear F51 a51
          have F53 := F52.sub (l' := [(2, .bool false)]) ⟨rfl, trivial⟩
          clear F52
          refine hFin rfl ?_
          exact J3 _ _ _ F53 FF hS
        · skip
          refine ⟨_, rfl, hS, fun a51 F51 => ?_⟩
          clear F50 a50
          have C3 := hid hc3
          clear hc3
          refine hMove F51 rfl rfl rfl rfl rfl rfl (fun a54 F54 => ?_)
          clear F51 a51
          refine hMove F54 rfl rfl rfl rfl rfl rfl (fun a55 F55 => ?_)
          clear F54 a54
          have F56 := F55.sub (l' := [(1, .pointer (some ⟨b, 0, none⟩)), (3, .bool b1), (4, .bool b2), (5, .bool b3), (6, .bool b4), (7, .bool b5), (8, .bool b6), (9, .func (.func 76) #[] #[]), (10, .bool to), (11, .bool way), (79, .bool true)]) ⟨rfl, rfl, rfl, rfl, rfl, rfl, rfl, rfl, rfl, rfl, rfl, trivial⟩
          clear F55
          refine hMove F56 rfl rfl rfl rfl rfl rfl (fun a57 F57 => ?_)
          clear F56 a55
          refine hMove F57 rfl rfl rfl rfl rfl rfl (fun a58 F58 => ?_)
          clear F57 a57
          refine hTake (v := ?v59) F58 rfl rfl rfl rfl rfl ?y59 (fun a59 F59 => ?h59)
          case y59 =>
            intro wS hSw; have e1 := F58.ev 1 rfl; have g1 := F58.get 1 _ rfl
            go_simp; try with_reducible rfl
          clear F58 a58
          refine hTake (v := ?v60) F59 rfl rfl rfl rfl rfl ?y60 (fun a60 F60 => ?h60)
          case y60 =>
            intro wS hSw; have q := (O1.out.below hSw).cs; have y5 := q.c5; clear q; have e82 := F59.ev 82 rfl; have g82 := F59.get 82 _ rfl
            go_simp; try with_reducible rfl
          clear F59 a59
          refine hTake (v := .bool e4) F60 rfl rfl rfl rfl rfl ?y61 (fun a61 F61 => ?h61)
          case y61 =>
            intro wS hSw; have e83 := F60.ev 83 rfl; have g83 := F60.get 83 _ rfl
            go_simp
            rw [HE4.out]
          clear F60 a60
          refine hTake (v := ?v62) F61 rfl rfl rfl rfl rfl ?y62 (fun a62 F62 => ?h62)
          case y62 =>
            intro wS hSw; have e1 := F61.ev 1 rfl; have g1 := F61.get 1 _ rfl
            go_simp; try with_reducible rfl
          clear F61 a61
          refine hTake (v := ?v63) F62 rfl rfl rfl rfl rfl ?y63 (fun a63 F63 => ?h63)
          case y63 =>
            intro wS hSw; have q := (O1.out.below hSw).cs; have y5 := q.c5; clear q; have e85 := F62.ev 85 rfl; have g85 := F62.get 85 _ rfl
            go_simp; try with_reducible rfl
          clear F62 a62
          refine hCall F63 rfl rfl rfl rfl rfl (keyR_any key _ hk) ?y64 ?h64
          case y64 =>
            have e86 := F63.ev 86 rfl; have g86 := F63.get 86 _ rfl
            go_simp; try with_reducible rfl
          rintro e wN ⟨rfl, rfl⟩
          refine ⟨_, rfl, hS, fun a64 F64 => ?_⟩
          clear F63 a63
          refine hCall F64 rfl rfl rfl rfl rfl (fits_any b3 e4 (keyR key) _) ?y65 ?h65
          case y65 =>
            have e80 := F64.ev 80 rfl; have g80 := F64.get 80 _ rfl; have e81 := F64.ev 81 rfl; have g81 := F64.get 81 _ rfl; have e84 := F64.ev 84 rfl; have g84 := F64.get 84 _ rfl; have e87 := F64.ev 87 rfl; have g87 := F64.get 87 _ rfl
            go_simp; try with_reducible rfl
          rw [← FC4.out]
          rintro e wN ⟨rfl, rfl⟩
          rcases hc4 : oc4 dd with _ | _
          · skip
            refine ⟨_, rfl, hS, fun a65 F65 => ?_⟩
            clear F64 a64
            have FF : oright dd = false := by rw [FO.out, hc4]; simp
            refine hRuns 80 F65 rfl (fun a66 F66 => ?_)
            clear F65 a65
            have F67 := F66.sub (l' := [(2, .bool false)]) ⟨rfl, trivial⟩
            clear F66
            refine hFin rfl ?_
            exact J3 _ _ _ F67 FF hS
          · skip
            refine ⟨_, rfl, hS, fun a65 F65 => ?_⟩
            clear F64 a64
            have C4 := hid hc4
            clear hc4
            refine hMove F65 rfl rfl rfl rfl rfl rfl (fun a68 F68 => ?_)
            clear F65 a65
            refine hMove F68 rfl rfl rfl rfl rfl rfl (fun a69 F69 => ?_)
            clear F68 a68
            have F70 := F69.sub (l' := [(1, .pointer (some ⟨b, 0, none⟩)), (3, .bool b1), (4, .bool b2), (5, .bool b3), (6, .bool b4), (7, .bool b5), (8, .bool b6), (9, .func (.func 76) #[] #[]), (10, .bool to), (11, .bool way), (90, .bool true)]) ⟨rfl, rfl, rfl, rfl, rfl, rfl, rfl, rfl, rfl, rfl, rfl, trivial⟩
            clear F69
            refine hMove F70 rfl rfl rfl rfl rfl rfl (fun a71 F71 => ?_)
            clear F70 a69
            refine hMove F71 rfl rfl rfl rfl rfl rfl (fun a72 F72 => ?_)
            clear F71 a71
            refine hTake (v := ?v73) F72 rfl rfl rfl rfl rfl ?y73 (fun a73 F73 => ?h73)
            case y73 =>
              intro wS hSw; have e1 := F72.ev 1 rfl; have g1 := F72.get 1 _ rfl
              go_simp; try with_reducible rfl
            clear F72 a72
            refine hTake (v := ?v74) F73 rfl rfl rfl rfl rfl ?y74 (fun a74 F74 => ?h74)
            case y74 =>
              intro wS hSw; have q := (O1.out.below hSw).cs; have y6 := q.c6; clear q; have e93 := F73.ev 93 rfl; have g93 := F73.get 93 _ rfl
              go_simp; try with_reducible rfl
            clear F73 a73
            refine hTake (v := ?v75) F74 rfl rfl rfl rfl rfl ?y75 (fun a75 F75 => ?h75)
            case y75 =>
              intro wS hSw; have e94 := F74.ev 94 rfl; have g94 := F74.get 94 _ rfl
              go_simp; try with_reducible rfl
            clear F74 a74
            refine hTake (v := .bool e5) F75 rfl rfl rfl rfl rfl ?y76 (fun a76 F76 => ?h76)
            case y76 =>
              intro wS hSw; have e95 := F75.ev 95 rfl; have g95 := F75.get 95 _ rfl
              go_simp
              rw [HE5.out]
            clear F75 a75
            refine hMove F76 rfl rfl rfl rfl rfl rfl (fun a77 F77 => ?_)
            clear F76 a76
            refine hCall F77 rfl rfl rfl rfl rfl (fits_any b4 e5 way _) ?y78 ?h78
            case y78 =>
              have e91 := F77.ev 91 rfl; have g91 := F77.get 91 _ rfl; have e92 := F77.ev 92 rfl; have g92 := F77.get 92 _ rfl; have e96 := F77.ev 96 rfl; have g96 := F77.get 96 _ rfl; have e97 := F77.ev 97 rfl; have g97 := F77.get 97 _ rfl
              go_simp; try with_reducible rfl
            rw [← FC5.out]
            rintro e wN ⟨rfl, rfl⟩
            rcases hc5 : oc5 dd with _ | _
            · skip
              refine ⟨_, rfl, hS, fun a78 F78 => ?_⟩
              clear F77 a77
              have FF : oright dd = false := by rw [FO.out, hc5]; simp
              refine hRuns 80 F78 rfl (fun a79 F79 => ?_)
              clear F78 a78
              have F80 := F79.sub (l' := [(2, .bool false)]) ⟨rfl, trivial⟩
              clear F79
              refine hFin rfl ?_
              exact J3 _ _ _ F80 FF hS
            · skip
              refine ⟨_, rfl, hS, fun a78 F78 => ?_⟩
              clear F77 a77
              have C5 := hid hc5
              clear hc5
              refine hMove F78 rfl rfl rfl rfl rfl rfl (fun a81 F81 => ?_)
              clear F78 a78
              refine hMove F81 rfl rfl rfl rfl rfl rfl (fun a82 F82 => ?_)
              clear F81 a81
              have F83 := F82.sub (l' := [(1, .pointer (some ⟨b, 0, none⟩)), (3, .bool b1), (4, .bool b2), (5, .bool b3), (6, .bool b4), (7, .bool b5), (8, .bool b6), (9, .func (.func 76) #[] #[]), (10, .bool to), (11, .bool way), (100, .bool true)]) ⟨rfl, rfl, rfl, rfl, rfl, rfl, rfl, rfl, rfl, rfl, rfl, trivial⟩
              clear F82
              refine hMove F83 rfl rfl rfl rfl rfl rfl (fun a84 F84 => ?_)
              clear F83 a82
              refine hMove F84 rfl rfl rfl rfl rfl rfl (fun a85 F85 => ?_)
              clear F84 a84
              refine hTake (v := ?v86) F85 rfl rfl rfl rfl rfl ?y86 (fun a86 F86 => ?h86)
              case y86 =>
                intro wS hSw; have e1 := F85.ev 1 rfl; have g1 := F85.get 1 _ rfl
                go_simp; try with_reducible rfl
              clear F85 a85
              refine hTake (v := ?v87) F86 rfl rfl rfl rfl rfl ?y87 (fun a87 F87 => ?h87)
              case y87 =>
                intro wS hSw; have q := (O1.out.below hSw).cs; have y7 := q.c7; clear q; have e103 := F86.ev 103 rfl; have g103 := F86.get 103 _ rfl
                go_simp; try with_reducible rfl
              clear F86 a86
              refine hJoin 59 [(1, .pointer (some ⟨b, 0, none⟩)), (3, .bool b1), (4, .bool b2), (5, .bool b3), (6, .bool b4), (7, .bool b5), (8, .bool b6), (9, .func (.func 76) #[] #[]), (10, .bool to), (11, .bool way), (100, .bool true), (101, .func (.func 76) #[] #[]), (102, .bool b5), (111, .bool (decide (prop = 0) && vzero vk vn vt))] 127 ?j59 (fun J59 => ?m59)
              case m59 =>
                by_cases hp0 : prop = 0
                · skip
                  have hpe : (prop == 0) = true := by simp [hp0]
                  rw [show (decide (prop = 0) && vzero vk vn vt) = vzero vk vn vt by simp [hp0]] at J59
                  refine hTake (v := ?v88) F87 rfl rfl rfl rfl rfl ?y88 (fun a88 F88 => ?h88)
                  case y88 =>
                    intro wS hSw; have e104 := F87.ev 104 rfl; have g104 := F87.get 104 _ rfl
                    go_simp; try with_reducible rfl
                  clear F87 a87
                  refine hMove F88 rfl rfl rfl rfl rfl rfl (fun a89 F89 => ?_)
                  clear F88 a88
                  refine hTake (v := ?v90) F89 rfl rfl rfl rfl rfl ?y90 (fun a90 F90 => ?h90)
                  case y90 =>
                    intro wS hSw; have e1 := F89.ev 1 rfl; have g1 := F89.get 1 _ rfl
                    go_simp; try with_reducible rfl
                  clear F89 a89
                  refine hTake (v := ?v91) F90 rfl rfl rfl rfl rfl ?y91 (fun a91 F91 => ?h91)
                  case y91 =>
                    intro wS hSw; have q := (O1.out.below hSw).cs; have y8 := q.c8; have y9 := q.c9; have y10 := q.c10; clear q; have e107 := F90.ev 107 rfl; have g107 := F90.get 107 _ rfl
                    go_simp; try with_reducible rfl
                  clear F90 a90
                  refine hTake (v := ?v92) F91 rfl rfl rfl rfl rfl ?y92 (fun a92 F92 => ?h92)
                  case y92 =>
                    intro wS hSw; skip
                    go_simp; try with_reducible rfl
                  clear F91 a91
                  refine hTake (v := .bool (vzero vk vn vt)) F92 rfl rfl rfl rfl rfl ?y93 (fun a93 F93 => ?h93)
                  case y93 =>
                    intro wS hSw; have e108 := F92.ev 108 rfl; have g108 := F92.get 108 _ rfl; have e109 := F92.ev 109 rfl; have g109 := F92.get 109 _ rfl
                    go_simp
                    rw [HVZ.out]; by_cases qa : vk = 0 <;> by_cases qb : vn = 0 <;> by_cases qc : vt.toList = [] <;> simp [qa, qb, qc]
                  clear F92 a92
                  refine hMove F93 rfl rfl rfl rfl rfl rfl (fun a94 F94 => ?_)
                  clear F93 a93
                  have F95 := F94.sub (l' := [(1, .pointer (some ⟨b, 0, none⟩)), (3, .bool b1), (4, .bool b2), (5, .bool b3), (6, .bool b4), (7, .bool b5), (8, .bool b6), (9, .func (.func 76) #[] #[]), (10, .bool to), (11, .bool way), (100, .bool true), (101, .func (.func 76) #[] #[]), (102, .bool b5), (111, .bool (vzero vk vn vt))]) ⟨rfl, rfl, rfl, rfl, rfl, rfl, rfl, rfl, rfl, rfl, rfl, rfl, rfl, rfl, trivial⟩
                  clear F94
                  exact J59 _ _ F95 hS
                · skip
                  have hpe : (prop == 0) = false := by simp [hp0]
                  rw [show (decide (prop = 0) && vzero vk vn vt) = false by simp [hp0]] at J59
                  refine hTake (v := ?v96) F87 rfl rfl rfl rfl rfl ?y96 (fun a96 F96 => ?h96)
                  case y96 =>
                    intro wS hSw; have e104 := F87.ev 104 rfl; have g104 := F87.get 104 _ rfl
                    go_simp; try with_reducible rfl
                  clear F87 a87
                  refine hMove F96 rfl rfl rfl rfl rfl rfl (fun a97 F97 => ?_)
                  clear F96 a96
                  refine hNot F97 rfl rfl rfl rfl (fun a98 F98 => ?_)
                  clear F97 a97
                  refine hNot F98 rfl rfl rfl rfl (fun a99 F99 => ?_)
                  clear F98 a98
                  refine hNot F99 rfl rfl rfl rfl (fun a100 F100 => ?_)
                  clear F99 a99
                  refine hNot F100 rfl rfl rfl rfl (fun a101 F101 => ?_)
                  clear F100 a100
                  refine hMove F101 rfl rfl rfl rfl rfl rfl (fun a102 F102 => ?_)
                  clear F101 a101
                  have F103 := F102.sub (l' := [(1, .pointer (some ⟨b, 0, none⟩)), (3, .bool b1), (4, .bool b2), (5, .bool b3), (6, .bool b4), (7, .bool b5), (8, .bool b6), (9, .func (.func 76) #[] #[]), (10, .bool to), (11, .bool way), (100, .bool true), (101, .func (.func 76) #[] #[]), (102, .bool b5), (111, .bool false)]) ⟨rfl, rfl, rfl, rfl, rfl, rfl, rfl, rfl, rfl, rfl, rfl, rfl, rfl, rfl, trivial⟩
                  clear F102
                  exact J59 _ _ F103 hS
              clear F87 a87
              intro aJ59 wJ59 FJ59 hS59
              replace hS := hS59
              clear hS59
              refine hTake (v := ?v104) FJ59 rfl rfl rfl rfl rfl ?y104 (fun a104 F104 => ?h104)
              case y104 =>
                intro wS hSw; have e1 := FJ59.ev 1 rfl; have g1 := FJ59.get 1 _ rfl
                go_simp; try with_reducible rfl
              clear FJ59 aJ59
              refine hTake (v := ?v105) F104 rfl rfl rfl rfl rfl ?y105 (fun a105 F105 => ?h105)
              case y105 =>
                intro wS hSw; have q := (O1.out.below hSw).cs; have y7 := q.c7; clear q; have e112 := F104.ev 112 rfl; have g112 := F104.get 112 _ rfl
                go_simp; try with_reducible rfl
              clear F104 a104
              refine hTake (v := ?v106) F105 rfl rfl rfl rfl rfl ?y106 (fun a106 F106 => ?h106)
              case y106 =>
                intro wS hSw; have e1 := F105.ev 1 rfl; have g1 := F105.get 1 _ rfl
                go_simp; try with_reducible rfl
              clear F105 a105
              refine hTake (v := ?v107) F106 rfl rfl rfl rfl rfl ?y107 (fun a107 F107 => ?h107)
              case y107 =>
                intro wS hSw; have q := (O1.out.below hSw).cs; have y8 := q.c8; have y9 := q.c9; have y10 := q.c10; clear q; have e114 := F106.ev 114 rfl; have g114 := F106.get 114 _ rfl
                go_simp; try with_reducible rfl
              clear F106 a106
              refine hCall F107 rfl rfl rfl rfl rfl (VRight8_any prop vk vn vt _ ht) ?y108 ?h108
              case y108 =>
                have e113 := F107.ev 113 rfl; have g113 := F107.get 113 _ rfl; have e115 := F107.ev 115 rfl; have g115 := F107.get 115 _ rfl
                go_simp; try with_reducible rfl
              rintro e wN ⟨rfl, hb⟩
              replace hS := below_then hS hb
              clear hb
              refine ⟨_, rfl, hS, fun a108 F108 => ?_⟩
              clear F107 a107
              refine hCall F108 rfl rfl rfl rfl rfl (fits_any b5 (decide (prop = 0) && vzero vk vn vt) (vright8 prop vk vn vt) _) ?y109 ?h109
              case y109 =>
                have e101 := F108.ev 101 rfl; have g101 := F108.get 101 _ rfl; have e102 := F108.ev 102 rfl; have g102 := F108.get 102 _ rfl; have e111 := F108.ev 111 rfl; have g111 := F108.get 111 _ rfl; have e116 := F108.ev 116 rfl; have g116 := F108.get 116 _ rfl
                go_simp; try with_reducible rfl
              rw [← FC6.out]
              rintro e wN ⟨rfl, rfl⟩
              rcases hc6 : oc6 dd with _ | _
              · skip
                refine ⟨_, rfl, hS, fun a109 F109 => ?_⟩
                clear F108 a108
                have FF : oright dd = false := by rw [FO.out, hc6]; simp
                refine hRuns 80 F109 rfl (fun a110 F110 => ?_)
                clear F109 a109
                have F111 := F110.sub (l' := [(2, .bool false)]) ⟨rfl, trivial⟩
                clear F110
                refine hFin rfl ?_
                exact J3 _ _ _ F111 FF hS
              · skip
                refine ⟨_, rfl, hS, fun a109 F109 => ?_⟩
                clear F108 a108
                have C6 := hid hc6
                clear hc6
                refine hMove F109 rfl rfl rfl rfl rfl rfl (fun a112 F112 => ?_)
                clear F109 a109
                refine hMove F112 rfl rfl rfl rfl rfl rfl (fun a113 F113 => ?_)
                clear F112 a112
                have F114 := F113.sub (l' := [(1, .pointer (some ⟨b, 0, none⟩)), (3, .bool b1), (4, .bool b2), (5, .bool b3), (6, .bool b4), (7, .bool b5), (8, .bool b6), (9, .func (.func 76) #[] #[]), (10, .bool to), (11, .bool way), (119, .bool true)]) ⟨rfl, rfl, rfl, rfl, rfl, rfl, rfl, rfl, rfl, rfl, rfl, trivial⟩
                clear F113
                refine hMove F114 rfl rfl rfl rfl rfl rfl (fun a115 F115 => ?_)
                clear F114 a113
                refine hMove F115 rfl rfl rfl rfl rfl rfl (fun a116 F116 => ?_)
                clear F115 a115
                rcases b6 with _ | _
                · skip
                  refine hTake (v := ?v117) F116 rfl rfl rfl rfl rfl ?y117 (fun a117 F117 => ?h117)
                  case y117 =>
                    intro wS hSw; have e1 := F116.ev 1 rfl; have g1 := F116.get 1 _ rfl
                    go_simp; try with_reducible rfl
                  clear F116 a116
                  refine hTake (v := ?v118) F117 rfl rfl rfl rfl rfl ?y118 (fun a118 F118 => ?h118)
                  case y118 =>
                    intro wS hSw; have q := (O1.out.below hSw).cs; have y11 := q.c11; clear q; have e122 := F117.ev 122 rfl; have g122 := F117.get 122 _ rfl
                    go_simp; try with_reducible rfl
                  clear F117 a117
                  refine hMove F118 rfl rfl rfl rfl rfl rfl (fun a119 F119 => ?_)
                  clear F118 a118
                  refine hMove F119 rfl rfl rfl rfl rfl rfl (fun a120 F120 => ?_)
                  clear F119 a119
                  refine hMove F120 rfl rfl rfl rfl rfl rfl (fun a121 F121 => ?_)
                  clear F120 a120
                  refine hMove F121 rfl rfl rfl rfl rfl rfl (fun a122 F122 => ?_)
                  clear F121 a121
                  have F123 := F122.sub (l' := [(2, .bool !on)]) ⟨rfl, trivial⟩
                  clear F122
                  refine hFin rfl ?_
                  exact J3 _ _ _ F123 (by rw [FO.out, C1.out, C2.out, C3.out, C4.out, C5.out, C6.out, FC7.out]; simp) hS
                · skip
                  refine hRuns 10 F116 rfl (fun a124 F124 => ?_)
                  clear F116 a116
                  have F125 := F124.sub (l' := [(2, .bool true)]) ⟨rfl, trivial⟩
                  clear F124
                  refine hFin rfl ?_
                  exact J3 _ _ _ F125 (by rw [FO.out, C1.out, C2.out, C3.out, C4.out, C5.out, C6.out, FC7.out]; simp) hS
    refine kGo ?_
    refine kTake (v := ?v126) FJ rfl rfl rfl rfl ?y126 (fun a126 F126 => ?h126)
    case y126 =>
      have e1 := FJ.ev 1 rfl; have g1 := FJ.get 1 _ rfl
      go_simp; try with_reducible rfl
    clear FJ aJ
    refine kTake (v := ?v127) F126 rfl rfl rfl rfl ?y127 (fun a127 F127 => ?h127)
    case y127 =>
      have q := (O1.out.below hS).cs; have y6 := q.c6; clear q; have e37 := F126.ev 37 rfl; have g37 := F126.get 37 _ rfl
      go_simp; try with_reducible rfl
    clear F126 a126
    refine kTake (v := ?v128) F127 rfl rfl rfl rfl ?y128 (fun a128 F128 => ?h128)
    case y128 =>
      have e38 := F127.ev 38 rfl; have g38 := F127.get 38 _ rfl
      go_simp; try with_reducible rfl
    clear F127 a127
    by_cases h0 : 0 < n
    · skip
      refine kTake (v := .bool true) F128 rfl rfl rfl rfl ?y129 (fun a129 F129 => ?h129)
      case y129 =>
        have e39 := F128.ev 39 rfl; have g39 := F128.get 39 _ rfl
        first | (go_simp; done) | (go_simp; omega)
      clear F128 a128
      refine kMove F129 rfl rfl rfl rfl rfl (fun a130 F130 => ?_)
      clear F129 a129
      refine kTake (v := ?v131) F130 rfl rfl rfl rfl ?y131 (fun a131 F131 => ?h131)
      case y131 =>
        have e1 := F130.ev 1 rfl; have g1 := F130.get 1 _ rfl
        go_simp; try with_reducible rfl
      clear F130 a130
      refine kTake (v := ?v132) F131 rfl rfl rfl rfl ?y132 (fun a132 F132 => ?h132)
      case y132 =>
        have q := (O1.out.below hS).cs; have y6 := q.c6; clear q; have e42 := F131.ev 42 rfl; have g42 := F131.get 42 _ rfl
        go_simp; try with_reducible rfl
      clear F131 a131
      refine kTake (v := ?v133) F132 rfl rfl rfl rfl ?y133 (fun a133 F133 => ?h133)
      case y133 =>
        have e43 := F132.ev 43 rfl; have g43 := F132.get 43 _ rfl
        go_simp; try with_reducible rfl
      clear F132 a132
      by_cases h8 : n ≤ 8
      · skip
        refine kTake (v := .bool true) F133 rfl rfl rfl rfl ?y134 (fun a134 F134 => ?h134)
        case y134 =>
          have e44 := F133.ev 44 rfl; have g44 := F133.get 44 _ rfl
          first | (go_simp; done) | (go_simp; omega)
        clear F133 a133
        refine kMove F134 rfl rfl rfl rfl rfl (fun a135 F135 => ?_)
        clear F134 a134
        refine kMove F135 rfl rfl rfl rfl rfl (fun a136 F136 => ?_)
        clear F135 a135
        refine kTake (v := ?v137) F136 rfl rfl rfl rfl ?y137 (fun a137 F137 => ?h137)
        case y137 =>
          have e1 := F136.ev 1 rfl; have g1 := F136.get 1 _ rfl
          go_simp; try with_reducible rfl
        clear F136 a136
        refine kTake (v := ?v138) F137 rfl rfl rfl rfl ?y138 (fun a138 F138 => ?h138)
        case y138 =>
          have q := (O1.out.below hS).cs; have y6 := q.c6; clear q; have e48 := F137.ev 48 rfl; have g48 := F137.get 48 _ rfl
          go_simp; try with_reducible rfl
        clear F137 a137
        refine kCall F138 rfl rfl rfl rfl (ContainsFunc_st A n c path _ (L1.out.below hS)) ?y139 ?h139
        case y139 =>
          have e49 := F138.ev 49 rfl; have g49 := F138.get 49 _ rfl
          go_simp; try with_reducible rfl
        rintro e wN ⟨rfl, hb⟩
        replace hS := below_then hS hb
        clear hb
        refine ⟨_, rfl, fun a139 F139 => ?_⟩
        clear F138 a138
        refine kMove F139 rfl rfl rfl rfl rfl (fun a140 F140 => ?_)
        clear F139 a139
        refine kMove F140 rfl rfl rfl rfl rfl (fun a141 F141 => ?_)
        clear F140 a140
        refine kMove F141 rfl rfl rfl rfl rfl (fun a142 F142 => ?_)
        clear F141 a141
        have hwy : way = !(!allN path) := by rw [FW.out]; simp [h0, h8]
        have F143 := F142.sub (l' := [(1, .pointer (some ⟨b, 0, none⟩)), (3, .bool b1), (4, .bool b2), (5, .bool b3), (6, .bool b4), (7, .bool b5), (8, .bool b6), (9, .func (.func 76) #[] #[]), (10, .bool to), (11, .bool !(!allN path))]) ⟨rfl, rfl, rfl, rfl, rfl, rfl, rfl, rfl, rfl, rfl, trivial⟩
        clear F142
        rw [← hwy] at F143
        refine kFin rfl ?_
        exact J2 _ _ F143 hS
      · skip
        refine kTake (v := .bool false) F133 rfl rfl rfl rfl ?y144 (fun a144 F144 => ?h144)
        case y144 =>
          have e44 := F133.ev 44 rfl; have g44 := F133.get 44 _ rfl
          first | (go_simp; done) | (go_simp; omega)
        clear F133 a133
        refine kRuns 10 F144 rfl (fun a145 F145 => ?_)
        clear F144 a144
        have F146 := F145.sub (l' := [(1, .pointer (some ⟨b, 0, none⟩)), (3, .bool b1), (4, .bool b2), (5, .bool b3), (6, .bool b4), (7, .bool b5), (8, .bool b6), (9, .func (.func 76) #[] #[]), (10, .bool to), (11, .bool false)]) ⟨rfl, rfl, rfl, rfl, rfl, rfl, rfl, rfl, rfl, rfl, trivial⟩
        clear F145
        have hwy : way = false := by rw [FW.out]; simp [h8]
        rw [← hwy] at F146
        refine kFin rfl ?_
        exact J2 _ _ F146 hS
    · skip
      refine kTake (v := .bool false) F128 rfl rfl rfl rfl ?y147 (fun a147 F147 => ?h147)
      case y147 =>
        have e39 := F128.ev 39 rfl; have g39 := F128.get 39 _ rfl
        first | (go_simp; done) | (go_simp; omega)
      clear F128 a128
      refine kRuns 14 F147 rfl (fun a148 F148 => ?_)
      clear F147 a147
      have F149 := F148.sub (l' := [(1, .pointer (some ⟨b, 0, none⟩)), (3, .bool b1), (4, .bool b2), (5, .bool b3), (6, .bool b4), (7, .bool b5), (8, .bool b6), (9, .func (.func 76) #[] #[]), (10, .bool to), (11, .bool false)]) ⟨rfl, rfl, rfl, rfl, rfl, rfl, rfl, rfl, rfl, rfl, trivial⟩
      clear F148
      have hwy : way = false := by rw [FW.out]; simp [h0]
      rw [← hwy] at F149
      refine kFin rfl ?_
      exact J2 _ _ F149 hS
  refine wp_seq ?_
  refine kGo ?_
  refine kTake (v := ?v150) F14 rfl rfl rfl rfl ?y150 (fun a150 F150 => ?h150)
  case y150 =>
    have e1 := F14.ev 1 rfl; have g1 := F14.get 1 _ rfl
    go_simp; try with_reducible rfl
  clear F14 a14
  refine kTake (v := ?v151) F150 rfl rfl rfl rfl ?y151 (fun a151 F151 => ?h151)
  case y151 =>
    have q := (O1.out.below hS).cs; have y0 := q.c0; clear q; have e25 := F150.ev 25 rfl; have g25 := F150.get 25 _ rfl
    go_simp; try with_reducible rfl
  clear F150 a150
  by_cases hk5 : k = 5
  · skip
    have hkb : (k == 5) = true := by simp [hk5]
    refine kTake (v := ?v152) F151 rfl rfl rfl rfl ?y152 (fun a152 F152 => ?h152)
    case y152 =>
      have e26 := F151.ev 26 rfl; have g26 := F151.get 26 _ rfl
      go_simp; try with_reducible rfl
    clear F151 a151
    refine kFin rfl ?_
    refine frNext ?_
    refine frCond (b := true) F152 rfl ?_
    simp only [if_true]
    have ft : to = (sNode r1 r2 || isRoot r1 r2) := by rw [FT.out, if_pos hk5]
    subst hk5
    refine kGo ?_
    refine kTake (v := ?v153) F152 rfl rfl rfl rfl ?y153 (fun a153 F153 => ?h153)
    case y153 =>
      have e1 := F152.ev 1 rfl; have g1 := F152.get 1 _ rfl
      go_simp; try with_reducible rfl
    clear F152 a152
    refine kTake (v := ?v154) F153 rfl rfl rfl rfl ?y154 (fun a154 F154 => ?h154)
    case y154 =>
      have q := (O1.out.below hS).cs; have y3 := q.c3; have y4 := q.c4; clear q; have e28 := F153.ev 28 rfl; have g28 := F153.get 28 _ rfl
      go_simp; try with_reducible rfl
    clear F153 a153
    refine kCall F154 rfl rfl rfl rfl (Node_any r1 r2 _) ?y155 ?h155
    case y155 =>
      have e29 := F154.ev 29 rfl; have g29 := F154.get 29 _ rfl
      go_simp; try with_reducible rfl
    rintro e wN ⟨rfl, hb⟩
    replace hS := below_then hS hb
    clear hb
    refine ⟨_, rfl, fun a155 F155 => ?_⟩
    clear F154 a154
    rcases hsn : sNode r1 r2 with _ | _
    · skip
      rw [hsn] at F155
      refine kMove F155 rfl rfl rfl rfl rfl (fun a156 F156 => ?_)
      clear F155 a155
      refine kTake (v := ?v157) F156 rfl rfl rfl rfl ?y157 (fun a157 F157 => ?h157)
      case y157 =>
        have e1 := F156.ev 1 rfl; have g1 := F156.get 1 _ rfl
        go_simp; try with_reducible rfl
      clear F156 a156
      refine kTake (v := ?v158) F157 rfl rfl rfl rfl ?y158 (fun a158 F158 => ?h158)
      case y158 =>
        have q := (O1.out.below hS).cs; have y3 := q.c3; have y4 := q.c4; clear q; have e32 := F157.ev 32 rfl; have g32 := F157.get 32 _ rfl
        go_simp; try with_reducible rfl
      clear F157 a157
      refine kTake (v := ?v159) F158 rfl rfl rfl rfl ?y159 (fun a159 F159 => ?h159)
      case y159 =>
        have G5 := G1.out.below hS; have z0 := G5.c00; have z1 := G5.c01; clear G5; skip
        go_simp; try with_reducible rfl
      clear F158 a158
      refine kTake (v := .bool (isRoot r1 r2)) F159 rfl rfl rfl rfl ?y160 (fun a160 F160 => ?h160)
      case y160 =>
        have e33 := F159.ev 33 rfl; have g33 := F159.get 33 _ rfl; have e34 := F159.ev 34 rfl; have g34 := F159.get 34 _ rfl
        go_simp
        by_cases qa : r1 = 0 <;> by_cases qb : r2 = 0 <;> simp [isRoot, qa, qb]
      clear F159 a159
      refine kMove F160 rfl rfl rfl rfl rfl (fun a161 F161 => ?_)
      clear F160 a160
      refine kMove F161 rfl rfl rfl rfl rfl (fun a162 F162 => ?_)
      clear F161 a161
      have F163 := F162.sub (l' := [(1, .pointer (some ⟨b, 0, none⟩)), (3, .bool b1), (4, .bool b2), (5, .bool b3), (6, .bool b4), (7, .bool b5), (8, .bool b6), (9, .func (.func 76) #[] #[]), (10, .bool (isRoot r1 r2))]) ⟨rfl, rfl, rfl, rfl, rfl, rfl, rfl, rfl, rfl, trivial⟩
      clear F162
      rw [hsn, Bool.false_or] at ft
      rw [← ft] at F163
      refine kFin rfl ?_
      exact J1 _ _ F163 hS
    · skip
      rw [hsn] at F155
      refine kMove F155 rfl rfl rfl rfl rfl (fun a164 F164 => ?_)
      clear F155 a155
      refine kRuns 8 F164 rfl (fun a165 F165 => ?_)
      clear F164 a164
      have F166 := F165.sub (l' := [(1, .pointer (some ⟨b, 0, none⟩)), (3, .bool b1), (4, .bool b2), (5, .bool b3), (6, .bool b4), (7, .bool b5), (8, .bool b6), (9, .func (.func 76) #[] #[]), (10, .bool true)]) ⟨rfl, rfl, rfl, rfl, rfl, rfl, rfl, rfl, rfl, trivial⟩
      clear F165
      rw [hsn, Bool.true_or] at ft
      rw [← ft] at F166
      refine kFin rfl ?_
      exact J1 _ _ F166 hS
  · skip
    have hkb : (k == 5) = false := by simp [hk5]
    refine kTake (v := ?v167) F151 rfl rfl rfl rfl ?y167 (fun a167 F167 => ?h167)
    case y167 =>
      have e26 := F151.ev 26 rfl; have g26 := F151.get 26 _ rfl
      go_simp; try with_reducible rfl
    clear F151 a151
    refine kFin rfl ?_
    refine frNext ?_
    refine frCond (b := false) F167 rfl ?_
    simp only [Bool.false_eq_true, if_false]
    have F168 := F167.sub (l' := [(1, .pointer (some ⟨b, 0, none⟩)), (3, .bool b1), (4, .bool b2), (5, .bool b3), (6, .bool b4), (7, .bool b5), (8, .bool b6), (9, .func (.func 76) #[] #[]), (10, .bool (sPlace r1 r2))]) ⟨rfl, rfl, rfl, rfl, rfl, rfl, rfl, rfl, rfl, trivial⟩
    clear F167
    rw [show sPlace r1 r2 = to by rw [FT.out, if_neg hk5]] at F168
    refine wp_skip ?_
    exact J1 _ _ F168 hS
end Go.Proofs.YtnakanophilfhaaDoor
