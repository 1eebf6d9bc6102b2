/- Layer 7: op.Put writes an op's bytes, if it may be. -/
import Derived.Test.YtnakanophilfhaaDoorOR
import Derived.Test.YtnakanophilfhaaDoorOPp
namespace Go.Proofs.YtnakanophilfhaaDoor
open Go.RowKit Go.Dio
set_option linter.unusedVariables false
set_option linter.unusedSimpArgs false
set_option maxRecDepth 100000 in
set_option maxHeartbeats 4000000 in
theorem OPut_any (k n1 n2 r1 r2 : Int) (key : ByteArray) (path : List (Int × Int)) (prop vk vn : Int) (vt : ByteArray) (on : Bool) (A : Option Addr) (n c : Nat) (w : World) (hl : IsSt w A n c path) (hg : RootsAt w) (ht : vt.size ≤ 9223372036854775807) (hk : key.size ≤ 9223372036854775807) :
    Calls Tryd.prog 12 #[opv ⟨k, n1, n2, r1, r2, key, path, prop, vk, vn, vt, on⟩ A n c] w fun e w' => (oright ⟨k, n1, n2, r1, r2, key, path, prop, vk, vn, vt, on⟩ = true → OutB2 5 w (opB ⟨k, n1, n2, r1, r2, key, path, prop, vk, vn, vt, on⟩) 0 e w') ∧ (oright ⟨k, n1, n2, r1, r2, key, path, prop, vk, vn, vt, on⟩ = false → e = .returned (.tuple #[.slice none 0 0, .int .i64 1]) ∧ Below w.heap.size w w') := by
  have hln := hl.len
  have hcap := hl.cap
  have hmax := hl.max
  obtain ⟨dd, hdd⟩ : ∃ dd, OpD.mk k n1 n2 r1 r2 key path prop vk vn vt on = dd := ⟨_, rfl⟩
  have hR : oright ⟨k, n1, n2, r1, r2, key, path, prop, vk, vn, vt, on⟩ = oright dd := by rw [hdd]
  have hBB : opB ⟨k, n1, n2, r1, r2, key, path, prop, vk, vn, vt, on⟩ = opB dd := by rw [hdd]
  rw [hR, hBB]
  have O1 := hid (OAt.new w ⟨k, n1, n2, r1, r2, key, path, prop, vk, vn, vt, on⟩ A n c _ rfl)
  have H1 := hid (below_alloc1 w (oo ⟨k, n1, n2, r1, r2, key, path, prop, vk, vn, vt, on⟩ A n c))
  have L1 := hid (hl.below H1.out)
  have G1 := hid (hg.below H1.out)
  have HRT := hid (ORight_any k n1 n2 r1 r2 key path prop vk vn vt on A n c)
  rw [hR] at HRT
  clear hl hg hR hBB
  have HDD := hid hdd
  have HLN := hid hln
  have HCM := hid (show n ≤ c ∧ c ≤ 9223372036854775807 from ⟨hcap, hmax⟩)
  clear hln hdd hcap hmax
  refine frCall (args := [opv ⟨k, n1, n2, r1, r2, key, path, prop, vk, vn, vt, on⟩ A n c]) (N := 101) Tryd.func12 rfl rfl rfl (fun a0 F0 => ?_)
  refine wp_seq ?_
  refine kGo ?_
  refine kVal (v := ?v1) (w' := w.alloc (oo ⟨k, n1, n2, r1, r2, key, path, prop, vk, vn, vt, on⟩ A n c)) F0 rfl rfl rfl rfl ?y1 (fun a1 F1 => ?h1)
  case y1 =>
    have e0 := F0.ev 0 rfl; have g0 := F0.get 0 _ rfl
    go_simp; try with_reducible rfl
  clear F0 a0
  refine kMove F1 rfl rfl rfl rfl rfl (fun a2 F2 => ?_)
  clear F1 a1
  refine kMove F2 rfl rfl rfl rfl rfl (fun a3 F3 => ?_)
  clear F2 a2
  have F4 := F3.sub (l' := [(1, .pointer (some ⟨w.heap.size, 0, none⟩))]) ⟨rfl, trivial⟩
  clear F3
  generalize hw1 : w.alloc (oo ⟨k, n1, n2, r1, r2, key, path, prop, vk, vn, vt, on⟩ A n c) = w1 at *
  clear hw1
  have HB : Below w1.heap.size w1 w1 := Below.refl _ _
  refine kFin rfl ?_
  refine frNext ?_
  refine wp_seq ?_
  refine wp_seq ?_
  refine kGo ?_
  refine kTake (v := opv ⟨k, n1, n2, r1, r2, key, path, prop, vk, vn, vt, on⟩ A n c) F4 rfl rfl rfl rfl ?y5 (fun a5 F5 => ?h5)
  case y5 =>
    have q := (O1.out.below HB).cs; have y0 := q.c0; have y1 := q.c1; have y2 := q.c2; have y3 := q.c3; have y4 := q.c4; have y5 := q.c5; have y6 := q.c6; have y7 := q.c7; have y8 := q.c8; have y9 := q.c9; have y10 := q.c10; have y11 := q.c11; clear q; have e1 := F4.ev 1 rfl; have g1 := F4.get 1 _ rfl
    go_simp; try with_reducible rfl
  clear F4 a3
  refine kCall F5 rfl rfl rfl rfl (HRT.out w1 L1.out G1.out ht hk) ?y6 ?h6
  case y6 =>
    have e17 := F5.ev 17 rfl; have g17 := F5.get 17 _ rfl
    go_simp; try with_reducible rfl
  rintro e wN ⟨rfl, hb⟩
  replace HB := below_then HB hb
  clear hb
  rcases hR : oright dd with _ | _
  · skip
    refine ⟨_, rfl, fun a6 F6 => ?_⟩
    clear F5 a5
    refine kMove F6 rfl rfl rfl rfl rfl (fun a7 F7 => ?_)
    clear F6 a6
    refine kFin rfl ?_
    refine frNext ?_
    refine frCond (b := true) F7 rfl ?_
    simp only [if_true]
    refine wp_seq ?_
    refine kGo ?_
    refine kMove F7 rfl rfl rfl rfl rfl (fun a8 F8 => ?_)
    clear F7 a7
    refine kMove F8 rfl rfl rfl rfl rfl (fun a9 F9 => ?_)
    clear F8 a8
    refine kFin rfl ?_
    refine frNext ?_
    refine wp_ret ?_
    refine frThenRet ?_
    exact frRet2 rfl F9 rfl rfl ⟨fun h => (by simp at h), fun _ => ⟨rfl, below_then H1.out HB⟩⟩
  · skip
    refine ⟨_, rfl, fun a6 F6 => ?_⟩
    clear F5 a5
    refine kMove F6 rfl rfl rfl rfl rfl (fun a10 F10 => ?_)
    clear F6 a6
    refine kFin rfl ?_
    refine frNext ?_
    refine frCond (b := false) F10 rfl ?_
    simp only [Bool.false_eq_true, if_false]
    refine wp_skip ?_
    refine frNext ?_
    refine wp_seq ?_
    have F11 := F10.sub (l' := [(1, .pointer (some ⟨w.heap.size, 0, none⟩))]) ⟨rfl, trivial⟩
    clear F10
    obtain ⟨h1, h2, h3, h4, h5, h6, h7⟩ := oright_cs hR
    have hkb := kind_bd h1
    have P3 := hid (show pKey k = true → key.size ≤ 24 from fun h => by
      have hdd := HDD.out
      subst hdd
      have := fits_yes h4 h
      simp only [keyR, decide_eq_true_eq] at this
      exact this.2.1)
    have P4 := hid (show pPath k = true → 0 < n ∧ n ≤ 8 ∧ ∀ p ∈ path, sright p.1 p.2 = true from fun h => by
      have hdd := HDD.out
      subst hdd
      rw [← HLN.out]
      exact oright_path hR h)
    have P5 := hid (show pProp k = true → 1 ≤ prop ∧ prop ≤ 8 ∧ vright vk vn vt = true from fun h => by
      have hdd := HDD.out
      subst hdd
      exact oright_prop hR h)
    have P1 := hid (show pNode k = true → sright n1 n2 = true from fun h => by
      have hdd := HDD.out
      subst hdd
      exact sNode_right (fits_yes h2 h))
    have P2 := hid (show pRef k = true → sright r1 r2 = true from fun h => by
      have hdd := HDD.out
      subst hdd
      exact opTo_right (fits_yes h3 h))
    have hk16 : 1 ≤ k ∧ k ≤ 6 := by
      have hdd := HDD.out
      subst hdd
      exact hkb
    clear h1 h2 h3 h4 h5 h6 h7 hkb
    obtain ⟨p0, hp0⟩ : ∃ p, p = numB k.toNat := ⟨_, rfl⟩
    obtain ⟨p1, hp1⟩ : ∃ p, p = if pNode k = true then stB n1 n2 else [] := ⟨_, rfl⟩
    obtain ⟨p2, hp2⟩ : ∃ p, p = if pRef k = true then stB r1 r2 else [] := ⟨_, rfl⟩
    obtain ⟨p3, hp3⟩ : ∃ p, p = if pKey k = true then textB key.data.toList else [] := ⟨_, rfl⟩
    obtain ⟨p4, hp4⟩ : ∃ p, p = if pPath k = true then numB path.length ++ pathB path else [] := ⟨_, rfl⟩
    obtain ⟨p5, hp5⟩ : ∃ p, p = if pProp k = true then numB prop.toNat ++ vB vk vn vt else [] := ⟨_, rfl⟩
    obtain ⟨p6, hp6⟩ : ∃ p, p = if pOn k = true then numB (if on = true then 1 else 0) else [] := ⟨_, rfl⟩
    have FIN := hid (show opB dd = (((((p0 ++ p1) ++ p2) ++ p3) ++ p4) ++ p5) ++ p6 by
      have hdd := HDD.out
      subst hdd
      rw [hp0, hp1, hp2, hp3, hp4, hp5, hp6]
      simp only [opB, List.append_assoc])
    have hq0 : p0.length ≤ 8 := by rw [hp0]; exact numB_le _ (by omega)
    have hq1 : p1.length ≤ 16 := by
      rw [hp1]; split
      · rename_i h; exact stB_le (P1.out h)
      · simp
    have hq2 : p2.length ≤ 16 := by
      rw [hp2]; split
      · rename_i h; exact stB_le (P2.out h)
      · simp
    have ekl : key.data.toList.length = key.size := by rw [Array.length_toList]; rfl
    have hq3 : p3.length ≤ 40 := by
      rw [hp3]; split
      · rename_i h
        have := P3.out h
        have l := numB_le key.data.toList.length (by omega)
        simp only [textB, List.length_append]
        omega
      · simp
    have hq4 : p4.length ≤ 200 := by
      rw [hp4]; split
      · rename_i h
        obtain ⟨q1, q2, q3⟩ := P4.out h
        have l := numB_le path.length (by rw [HLN.out]; omega)
        have l2 := pathB_le path q3
        have l3 := HLN.out
        simp only [List.length_append]
        omega
      · simp
    have hq5 : p5.length ≤ 200 := by
      rw [hp5]; split
      · rename_i h
        obtain ⟨q1, q2, q3⟩ := P5.out h
        have l := numB_le prop.toNat (by omega)
        have l2 := vB_le q3
        simp only [List.length_append]
        omega
      · simp
    clear ekl
    generalize hb1 : pNode k = b1 at *
    generalize hb2 : pRef k = b2 at *
    generalize hb3 : pKey k = b3 at *
    generalize hb4 : pPath k = b4 at *
    generalize hb5 : pProp k = b5 at *
    generalize hb6 : pOn k = b6 at *
    have HP := hid (show partsV k = .tuple #[.bool b1, .bool b2, .bool b3, .bool b4, .bool b5, .bool b6] by unfold partsV; rw [hb1, hb2, hb3, hb4, hb5, hb6])
    clear hb1 hb2 hb3 hb4 hb5 hb6
    have E0 := hid hp0; have E1 := hid hp1; have E2 := hid hp2; have E3 := hid hp3; have E4 := hid hp4; have E5 := hid hp5; have E6 := hid hp6
    clear hp0 hp1 hp2 hp3 hp4 hp5 hp6
    refine kGo ?_
    refine kTake (v := ?v12) F11 rfl rfl rfl rfl ?y12 (fun a12 F12 => ?h12)
    case y12 =>
      have e1 := F11.ev 1 rfl; have g1 := F11.get 1 _ rfl
      go_simp; try with_reducible rfl
    clear F11 a10
    refine kTake (v := ?v13) F12 rfl rfl rfl rfl ?y13 (fun a13 F13 => ?h13)
    case y13 =>
      have q := (O1.out.below HB).cs; have y0 := q.c0; clear q; have e21 := F12.ev 21 rfl; have g21 := F12.get 21 _ rfl
      go_simp; try with_reducible rfl
    clear F12 a12
    refine kCall F13 rfl rfl rfl rfl (parts_any k _) ?y14 ?h14
    case y14 =>
      have e22 := F13.ev 22 rfl; have g22 := F13.get 22 _ rfl
      go_simp; try with_reducible rfl
    rw [HP.out]
    rintro e wN ⟨rfl, rfl⟩
    refine ⟨_, rfl, fun a14 F14 => ?_⟩
    clear F13 a13
    refine kMove F14 rfl rfl rfl rfl rfl (fun a15 F15 => ?_)
    clear F14 a14
    refine kRuns 12 F15 rfl (fun a16 F16 => ?_)
    clear F15 a15
    have F17 := F16.sub (l' := [(1, .pointer (some ⟨w.heap.size, 0, none⟩)), (4, .bool b1), (5, .bool b2), (6, .bool b3), (7, .bool b4), (8, .bool b5), (9, .bool b6)]) ⟨rfl, rfl, rfl, rfl, rfl, rfl, rfl, trivial⟩
    clear F16
    refine kFin rfl ?_
    refine frNext ?_
    refine wp_seq ?_
    refine kGo ?_
    refine kTake (v := ?v18) F17 rfl rfl rfl rfl ?y18 (fun a18 F18 => ?h18)
    case y18 =>
      have e1 := F17.ev 1 rfl; have g1 := F17.get 1 _ rfl
      go_simp; try with_reducible rfl
    clear F17 a16
    refine kTake (v := ?v19) F18 rfl rfl rfl rfl ?y19 (fun a19 F19 => ?h19)
    case y19 =>
      have q := (O1.out.below HB).cs; have y0 := q.c0; clear q; have e30 := F18.ev 30 rfl; have g30 := F18.get 30 _ rfl
      go_simp; try with_reducible rfl
    clear F18 a18
    refine kCall F19 rfl rfl rfl rfl (opnum_any k.toNat _ (by omega)) ?y20 ?h20
    case y20 =>
      have e31 := F19.ev 31 rfl; have g31 := F19.get 31 _ rfl
      first | (go_simp; done) | (go_simp; omega)
    rintro e wN ⟨u, rfl, ho, hb⟩
    have HO : OwnB _ _ _ _ _ := ho.lower HB.size
    replace HB := below_then HB hb
    clear ho hb
    rw [← E0.out] at HO
    refine ⟨_, rfl, fun a20 F20 => ?_⟩
    clear F19 a19
    refine kMove F20 rfl rfl rfl rfl rfl (fun a21 F21 => ?_)
    clear F20 a20
    have F22 := F21.sub (l' := [(1, .pointer (some ⟨w.heap.size, 0, none⟩)), (4, .bool b1), (5, .bool b2), (6, .bool b3), (7, .bool b4), (8, .bool b5), (9, .bool b6), (10, u)]) ⟨rfl, rfl, rfl, rfl, rfl, rfl, rfl, rfl, trivial⟩
    clear F21
    refine kFin rfl ?_
    refine frNext ?_
    refine wp_seq_k (fun K1 k1 => ?_)
    have J1 : ∀ aJ wJ v, Fr aJ 101 [(1, .pointer (some ⟨w.heap.size, 0, none⟩)), (4, .bool b1), (5, .bool b2), (6, .bool b3), (7, .bool b4), (8, .bool b5), (9, .bool b6), (10, v)] → OwnB 5 wJ w1.heap.size v (p0 ++ p1) → Below w1.heap.size w1 wJ → K1 aJ wJ := by
      clear HO HB F22 a21
      intro a1J w1J v1J F1J HO HB
      refine k1 _ _ ?_
      clear k1 K1
      refine wp_seq_k (fun K2 k2 => ?_)
      have J2 : ∀ aJ wJ v, Fr aJ 101 [(1, .pointer (some ⟨w.heap.size, 0, none⟩)), (4, .bool b1), (5, .bool b2), (6, .bool b3), (7, .bool b4), (8, .bool b5), (9, .bool b6), (10, v)] → OwnB 5 wJ w1.heap.size v ((p0 ++ p1) ++ p2) → Below w1.heap.size w1 wJ → K2 aJ wJ := by
        clear HO HB F1J a1J
        intro a2J w2J v2J F2J HO HB
        refine k2 _ _ ?_
        clear k2 K2
        refine wp_seq_k (fun K3 k3 => ?_)
        have J3 : ∀ aJ wJ v, Fr aJ 101 [(1, .pointer (some ⟨w.heap.size, 0, none⟩)), (4, .bool b1), (5, .bool b2), (6, .bool b3), (7, .bool b4), (8, .bool b5), (9, .bool b6), (10, v)] → OwnB 5 wJ w1.heap.size v (((p0 ++ p1) ++ p2) ++ p3) → Below w1.heap.size w1 wJ → K3 aJ wJ := by
          clear HO HB F2J a2J
          intro a3J w3J v3J F3J HO HB
          refine k3 _ _ ?_
          clear k3 K3
          refine wp_seq_k (fun K4 k4 => ?_)
          have J4 : ∀ aJ wJ v, Fr aJ 101 [(1, .pointer (some ⟨w.heap.size, 0, none⟩)), (4, .bool b1), (5, .bool b2), (6, .bool b3), (7, .bool b4), (8, .bool b5), (9, .bool b6), (10, v)] → OwnB 5 wJ w1.heap.size v ((((p0 ++ p1) ++ p2) ++ p3) ++ p4) → Below w1.heap.size w1 wJ → K4 aJ wJ := by
            clear HO HB F3J a3J
            intro a4J w4J v4J F4J HO HB
            refine k4 _ _ ?_
            clear k4 K4
            refine wp_seq_k (fun K5 k5 => ?_)
            have J5 : ∀ aJ wJ v, Fr aJ 101 [(1, .pointer (some ⟨w.heap.size, 0, none⟩)), (4, .bool b1), (5, .bool b2), (6, .bool b3), (7, .bool b4), (8, .bool b5), (9, .bool b6), (10, v)] → OwnB 5 wJ w1.heap.size v (((((p0 ++ p1) ++ p2) ++ p3) ++ p4) ++ p5) → Below w1.heap.size w1 wJ → K5 aJ wJ := by
              clear HO HB F4J a4J
              intro a5J w5J v5J F5J HO HB
              refine k5 _ _ ?_
              clear k5 K5
              refine wp_seq_k (fun K6 k6 => ?_)
              have J6 : ∀ aJ wJ v, Fr aJ 101 [(1, .pointer (some ⟨w.heap.size, 0, none⟩)), (10, v)] → OwnB 5 wJ w1.heap.size v ((((((p0 ++ p1) ++ p2) ++ p3) ++ p4) ++ p5) ++ p6) → Below w1.heap.size w1 wJ → K6 aJ wJ := by
                clear HO HB F5J a5J
                intro a6J w6J v6J F6J HO HB
                refine k6 _ _ ?_
                clear k6 K6
                refine wp_seq ?_
                refine kGo ?_
                refine kMove F6J rfl rfl rfl rfl rfl (fun a23 F23 => ?_)
                clear F6J a6J
                refine kMove F23 rfl rfl rfl rfl rfl (fun a24 F24 => ?_)
                clear F23 a23
                refine kMove F24 rfl rfl rfl rfl rfl (fun a25 F25 => ?_)
                clear F24 a24
                refine kFin rfl ?_
                refine frNext ?_
                refine wp_ret ?_
                refine frRet2 rfl F25 rfl rfl ⟨fun _ => ⟨_, rfl, ?_, below_then H1.out HB⟩, fun h => (by simp at h)⟩
                rw [FIN.out]
                exact HO.lower H1.out.size
              rcases b6 with _ | _
              · skip
                refine wp_seq ?_
                refine kGo ?_
                refine kRuns 6 F5J rfl (fun a26 F26 => ?_)
                clear F5J a5J
                have F27 := F26.sub (l' := [(1, .pointer (some ⟨w.heap.size, 0, none⟩)), (4, .bool b1), (5, .bool b2), (6, .bool b3), (7, .bool b4), (8, .bool b5), (9, .bool false), (10, v5J), (92, .bool false)]) ⟨rfl, rfl, rfl, rfl, rfl, rfl, rfl, rfl, rfl, trivial⟩
                clear F26
                refine kFin rfl ?_
                refine frNext ?_
                refine frCond (b := false) F27 rfl ?_
                simp only [Bool.false_eq_true, if_false]
                refine wp_seq ?_
                refine kGo ?_
                refine kMove F27 rfl rfl rfl rfl rfl (fun a28 F28 => ?_)
                clear F27 a26
                refine kFin rfl ?_
                refine frNext ?_
                refine frCond (b := false) F28 rfl ?_
                simp only [Bool.false_eq_true, if_false]
                refine wp_skip ?_
                have F29 := F28.sub (l' := [(1, .pointer (some ⟨w.heap.size, 0, none⟩)), (4, .bool b1), (5, .bool b2), (6, .bool b3), (7, .bool b4), (8, .bool b5), (9, .bool false), (10, v5J)]) ⟨rfl, rfl, rfl, rfl, rfl, rfl, rfl, rfl, trivial⟩
                clear F28
                have e : p6 = [] := E6.out
                rw [show (((((p0 ++ p1) ++ p2) ++ p3) ++ p4) ++ p5) = ((((((p0 ++ p1) ++ p2) ++ p3) ++ p4) ++ p5) ++ p6) by rw [e, List.append_nil]] at HO
                exact J6 _ _ _ (Fr.sub F29 ⟨rfl, rfl, trivial⟩) HO HB
              · skip
                refine wp_seq ?_
                refine kGo ?_
                refine kMove F5J rfl rfl rfl rfl rfl (fun a30 F30 => ?_)
                clear F5J a5J
                refine kMove F30 rfl rfl rfl rfl rfl (fun a31 F31 => ?_)
                clear F30 a30
                refine kTake (v := ?v32) F31 rfl rfl rfl rfl ?y32 (fun a32 F32 => ?h32)
                case y32 =>
                  have e1 := F31.ev 1 rfl; have g1 := F31.get 1 _ rfl
                  go_simp; try with_reducible rfl
                clear F31 a31
                refine kTake (v := ?v33) F32 rfl rfl rfl rfl ?y33 (fun a33 F33 => ?h33)
                case y33 =>
                  have q := (O1.out.below HB).cs; have y11 := q.c11; clear q; have e90 := F32.ev 90 rfl; have g90 := F32.get 90 _ rfl
                  go_simp; try with_reducible rfl
                clear F32 a32
                refine kMove F33 rfl rfl rfl rfl rfl (fun a34 F34 => ?_)
                clear F33 a33
                have F35 := F34.sub (l' := [(1, .pointer (some ⟨w.heap.size, 0, none⟩)), (9, .bool true), (10, v5J), (92, .bool on)]) ⟨rfl, rfl, rfl, rfl, trivial⟩
                clear F34
                refine kFin rfl ?_
                refine frNext ?_
                rcases on with _ | _
                · skip
                  refine frCond (b := false) F35 rfl ?_
                  simp only [Bool.false_eq_true, if_false]
                  refine wp_seq ?_
                  refine kGo ?_
                  refine kMove F35 rfl rfl rfl rfl rfl (fun a36 F36 => ?_)
                  clear F35 a34
                  refine kFin rfl ?_
                  refine frNext ?_
                  refine frCond (b := true) F36 rfl ?_
                  simp only [if_true]
                  refine kGo ?_
                  refine kMove F36 rfl rfl rfl rfl rfl (fun a37 F37 => ?_)
                  clear F36 a36
                  refine kCall F37 rfl rfl rfl rfl (opnum_any 0 _ (by omega)) ?y38 ?h38
                  case y38 =>
                    skip
                    go_simp; try with_reducible rfl
                  rintro e wN ⟨u, rfl, ho, hb⟩
                  obtain ⟨Au, nu, cu, rfl, hu, -⟩ := ho.form
                  have hul := hu.len
                  have HO2 : OwnB _ wN _ _ _ := owns_below HO hb
                  replace HB := below_then HB hb
                  clear HO ho hb
                  have HO := HO2
                  clear HO2
                  refine ⟨_, rfl, fun a38 F38 => ?_⟩
                  clear F37 a37
                  have hst := numB_le 0 (by omega)
                  refine kAppB (w0 := w1) w1.heap.size F38 rfl rfl rfl rfl (t := 31) (e := 5) rfl Tryd.underlying31 info_u8 rfl rfl HO hu HB HB.size ?c39 ?h39
                  case c39 => first | omega | (simp only [List.length_append]; omega)
                  clear HO HB hu
                  intro v39 w39x HO HB hg a39 F39
                  clear hg
                  clear F38 a38
                  refine kMove F39 rfl rfl rfl rfl rfl (fun a40 F40 => ?_)
                  clear F39 a39
                  have F41 := F40.sub (l' := [(1, .pointer (some ⟨w.heap.size, 0, none⟩)), (10, v39)]) ⟨rfl, rfl, trivial⟩
                  clear F40
                  refine kFin rfl ?_
                  rw [← show p6 = numB 0 from E6.out] at HO
                  exact J6 _ _ _ F41 HO HB
                · skip
                  refine frCond (b := true) F35 rfl ?_
                  simp only [if_true]
                  refine kGo ?_
                  refine kMove F35 rfl rfl rfl rfl rfl (fun a42 F42 => ?_)
                  clear F35 a34
                  refine kCall F42 rfl rfl rfl rfl (opnum_any 1 _ (by omega)) ?y43 ?h43
                  case y43 =>
                    skip
                    go_simp; try with_reducible rfl
                  rintro e wN ⟨u, rfl, ho, hb⟩
                  obtain ⟨Au, nu, cu, rfl, hu, -⟩ := ho.form
                  have hul := hu.len
                  have HO2 : OwnB _ wN _ _ _ := owns_below HO hb
                  replace HB := below_then HB hb
                  clear HO ho hb
                  have HO := HO2
                  clear HO2
                  refine ⟨_, rfl, fun a43 F43 => ?_⟩
                  clear F42 a42
                  have hst := numB_le 1 (by omega)
                  refine kAppB (w0 := w1) w1.heap.size F43 rfl rfl rfl rfl (t := 31) (e := 5) rfl Tryd.underlying31 info_u8 rfl rfl HO hu HB HB.size ?c44 ?h44
                  case c44 => first | omega | (simp only [List.length_append]; omega)
                  clear HO HB hu
                  intro v44 w44x HO HB hg a44 F44
                  clear hg
                  clear F43 a43
                  refine kMove F44 rfl rfl rfl rfl rfl (fun a45 F45 => ?_)
                  clear F44 a44
                  have F46 := F45.sub (l' := [(1, .pointer (some ⟨w.heap.size, 0, none⟩)), (10, v44)]) ⟨rfl, rfl, trivial⟩
                  clear F45
                  refine kFin rfl ?_
                  rw [← show p6 = numB 1 from E6.out] at HO
                  exact J6 _ _ _ F46 HO HB
            refine wp_seq ?_
            refine kGo ?_
            refine kMove F4J rfl rfl rfl rfl rfl (fun a47 F47 => ?_)
            clear F4J a4J
            refine kFin rfl ?_
            refine frNext ?_
            rcases b5 with _ | _
            · skip
              refine frCond (b := false) F47 rfl ?_
              simp only [Bool.false_eq_true, if_false]
              have F48 := F47.sub (l' := [(1, .pointer (some ⟨w.heap.size, 0, none⟩)), (4, .bool b1), (5, .bool b2), (6, .bool b3), (7, .bool b4), (8, .bool false), (9, .bool b6), (10, v4J)]) ⟨rfl, rfl, rfl, rfl, rfl, rfl, rfl, rfl, trivial⟩
              clear F47
              refine wp_skip ?_
              have e : p5 = [] := E5.out
              rw [show ((((p0 ++ p1) ++ p2) ++ p3) ++ p4) = (((((p0 ++ p1) ++ p2) ++ p3) ++ p4) ++ p5) by rw [e, List.append_nil]] at HO
              exact J5 _ _ _ F48 HO HB
            · skip
              refine frCond (b := true) F47 rfl ?_
              simp only [if_true]
              obtain ⟨hpr1, hpr8, hvr⟩ := P5.out rfl
              have hst := vB_le hvr
              have hst2 := numB_le prop.toNat (by omega)
              refine wp_seq ?_
              refine kGo ?_
              refine kTake (v := ?v49) F47 rfl rfl rfl rfl ?y49 (fun a49 F49 => ?h49)
              case y49 =>
                have e1 := F47.ev 1 rfl; have g1 := F47.get 1 _ rfl
                go_simp; try with_reducible rfl
              clear F47 a47
              refine kTake (v := ?v50) F49 rfl rfl rfl rfl ?y50 (fun a50 F50 => ?h50)
              case y50 =>
                have q := (O1.out.below HB).cs; have y8 := q.c8; have y9 := q.c9; have y10 := q.c10; clear q; have e76 := F49.ev 76 rfl; have g76 := F49.get 76 _ rfl
                go_simp; try with_reducible rfl
              clear F49 a49
              refine kCall F50 rfl rfl rfl rfl (VPut_ok vk vn vt _ ht hvr) ?y51 ?h51
              case y51 =>
                have e77 := F50.ev 77 rfl; have g77 := F50.get 77 _ rfl
                go_simp; try with_reducible rfl
              rintro e wN ⟨u, rfl, ho, hb⟩
              obtain ⟨Av, nv, cv, rfl, hv, hva⟩ := ho.form
              have hvl := hv.len
              have hne : ∀ q, Av = some q → some q.block ≠ (v4J).ownBlock := fun q hq he => by
                have h1 := (hva q hq).1
                have h2 := (World.ownsRow.lt HO q.block he.symm).2
                omega
              have HO2 : OwnB _ wN _ _ _ := owns_below HO hb
              replace HB := below_then HB hb
              clear HO ho hb hva
              have HO := HO2
              clear HO2
              refine ⟨_, rfl, fun a51 F51 => ?_⟩
              clear F50 a50
              refine kMove F51 rfl rfl rfl rfl rfl (fun a52 F52 => ?_)
              clear F51 a51
              refine kMove F52 rfl rfl rfl rfl rfl (fun a53 F53 => ?_)
              clear F52 a52
              refine kMove F53 rfl rfl rfl rfl rfl (fun a54 F54 => ?_)
              clear F53 a53
              refine kMove F54 rfl rfl rfl rfl rfl (fun a55 F55 => ?_)
              clear F54 a54
              refine kMove F55 rfl rfl rfl rfl rfl (fun a56 F56 => ?_)
              clear F55 a55
              have F57 := F56.sub (l' := [(1, .pointer (some ⟨w.heap.size, 0, none⟩)), (4, .bool b1), (5, .bool b2), (6, .bool b3), (7, .bool b4), (8, .bool true), (9, .bool b6), (10, v4J), (15, .slice Av nv cv)]) ⟨rfl, rfl, rfl, rfl, rfl, rfl, rfl, rfl, rfl, trivial⟩
              clear F56
              refine kFin rfl ?_
              refine frNext ?_
              refine kGo ?_
              refine kMove F57 rfl rfl rfl rfl rfl (fun a58 F58 => ?_)
              clear F57 a56
              refine kTake (v := ?v59) F58 rfl rfl rfl rfl ?y59 (fun a59 F59 => ?h59)
              case y59 =>
                have e1 := F58.ev 1 rfl; have g1 := F58.get 1 _ rfl
                go_simp; try with_reducible rfl
              clear F58 a58
              refine kTake (v := ?v60) F59 rfl rfl rfl rfl ?y60 (fun a60 F60 => ?h60)
              case y60 =>
                have q := (O1.out.below HB).cs; have y7 := q.c7; clear q; have e82 := F59.ev 82 rfl; have g82 := F59.get 82 _ rfl
                go_simp; try with_reducible rfl
              clear F59 a59
              refine kCall F60 rfl rfl rfl rfl (opnum_any prop.toNat _ (by omega)) ?y61 ?h61
              case y61 =>
                have e83 := F60.ev 83 rfl; have g83 := F60.get 83 _ rfl
                first | (go_simp; done) | (go_simp; omega)
              rintro e wN2 ⟨u, rfl, ho, hb⟩
              obtain ⟨Au, nu, cu, rfl, hu, -⟩ := ho.form
              have hul := hu.len
              replace hv := hv.below hb
              have HO2 : OwnB _ wN2 _ _ _ := owns_below HO hb
              replace HB := below_then HB hb
              clear HO ho hb
              have HO := HO2
              clear HO2
              refine ⟨_, rfl, fun a61 F61 => ?_⟩
              clear F60 a60
              refine kAppB (w0 := w1) w1.heap.size F61 rfl rfl rfl rfl (t := 31) (e := 5) rfl Tryd.underlying31 info_u8 rfl rfl HO hu HB HB.size ?c62 ?h62
              case c62 => first | omega | (simp only [List.length_append]; omega)
              clear HO HB hu
              intro v62 w62x HO HB hg a62 F62
              replace hv := hv.grown hg hne
              clear hg
              clear F61 a61
              refine kMove F62 rfl rfl rfl rfl rfl (fun a63 F63 => ?_)
              clear F62 a62
              refine kAppB (w0 := w1) w1.heap.size F63 rfl rfl rfl rfl (t := 31) (e := 5) rfl Tryd.underlying31 info_u8 rfl rfl HO hv HB HB.size ?c64 ?h64
              case c64 => first | omega | (simp only [List.length_append]; omega)
              clear HO HB hv
              intro v64 w64x HO HB hg a64 F64
              clear hg
              clear F63 a63
              refine kMove F64 rfl rfl rfl rfl rfl (fun a65 F65 => ?_)
              clear F64 a64
              have F66 := F65.sub (l' := [(1, .pointer (some ⟨w.heap.size, 0, none⟩)), (4, .bool b1), (5, .bool b2), (6, .bool b3), (7, .bool b4), (8, .bool true), (9, .bool b6), (10, v64)]) ⟨rfl, rfl, rfl, rfl, rfl, rfl, rfl, rfl, trivial⟩
              clear F65
              refine kFin rfl ?_
              rw [List.append_assoc, ← show p5 = numB prop.toNat ++ vB vk vn vt from E5.out] at HO
              exact J5 _ _ _ F66 HO HB
          refine wp_seq ?_
          refine kGo ?_
          refine kMove F3J rfl rfl rfl rfl rfl (fun a67 F67 => ?_)
          clear F3J a3J
          refine kFin rfl ?_
          refine frNext ?_
          rcases b4 with _ | _
          · skip
            refine frCond (b := false) F67 rfl ?_
            simp only [Bool.false_eq_true, if_false]
            have F68 := F67.sub (l' := [(1, .pointer (some ⟨w.heap.size, 0, none⟩)), (4, .bool b1), (5, .bool b2), (6, .bool b3), (7, .bool false), (8, .bool b5), (9, .bool b6), (10, v3J)]) ⟨rfl, rfl, rfl, rfl, rfl, rfl, rfl, rfl, trivial⟩
            clear F67
            refine wp_skip ?_
            have e : p4 = [] := E4.out
            rw [show (((p0 ++ p1) ++ p2) ++ p3) = ((((p0 ++ p1) ++ p2) ++ p3) ++ p4) by rw [e, List.append_nil]] at HO
            exact J4 _ _ _ F68 HO HB
          · skip
            refine frCond (b := true) F67 rfl ?_
            simp only [if_true]
            obtain ⟨hn0, hn8, hall⟩ := P4.out rfl
            have hln := HLN.out
            have hln2 := HCM.out
            refine wp_seq ?_
            refine kGo ?_
            refine kMove F67 rfl rfl rfl rfl rfl (fun a69 F69 => ?_)
            clear F67 a67
            refine kTake (v := ?v70) F69 rfl rfl rfl rfl ?y70 (fun a70 F70 => ?h70)
            case y70 =>
              have e1 := F69.ev 1 rfl; have g1 := F69.get 1 _ rfl
              go_simp; try with_reducible rfl
            clear F69 a69
            refine kTake (v := ?v71) F70 rfl rfl rfl rfl ?y71 (fun a71 F71 => ?h71)
            case y71 =>
              have q := (O1.out.below HB).cs; have y6 := q.c6; clear q; have e57 := F70.ev 57 rfl; have g57 := F70.get 57 _ rfl
              go_simp; try with_reducible rfl
            clear F70 a70
            refine kTake (v := ?v72) F71 rfl rfl rfl rfl ?y72 (fun a72 F72 => ?h72)
            case y72 =>
              have e58 := F71.ev 58 rfl; have g58 := F71.get 58 _ rfl
              go_simp; try with_reducible rfl
            clear F71 a71
            refine kCall F72 rfl rfl rfl rfl (opnum_any n _ (by omega)) ?y73 ?h73
            case y73 =>
              have e59 := F72.ev 59 rfl; have g59 := F72.get 59 _ rfl
              go_simp; try with_reducible rfl
            rintro e wN ⟨u, rfl, ho, hb⟩
            obtain ⟨Au, nu, cu, rfl, hu, -⟩ := ho.form
            have hul := hu.len
            have HO2 : OwnB _ wN _ _ _ := owns_below HO hb
            replace HB := below_then HB hb
            clear HO ho hb
            have HO := HO2
            clear HO2
            refine ⟨_, rfl, fun a73 F73 => ?_⟩
            clear F72 a72
            have hst := numB_le n (by omega)
            refine kAppB (w0 := w1) w1.heap.size F73 rfl rfl rfl rfl (t := 31) (e := 5) rfl Tryd.underlying31 info_u8 rfl rfl HO hu HB HB.size ?c74 ?h74
            case c74 => first | omega | (simp only [List.length_append]; omega)
            clear HO HB hu
            intro v74 w74x HO HB hg a74 F74
            clear hg
            clear F73 a73
            refine kMove F74 rfl rfl rfl rfl rfl (fun a75 F75 => ?_)
            clear F74 a74
            have F76 := F75.sub (l' := [(1, .pointer (some ⟨w.heap.size, 0, none⟩)), (4, .bool b1), (5, .bool b2), (6, .bool b3), (7, .bool true), (8, .bool b5), (9, .bool b6), (10, v74)]) ⟨rfl, rfl, rfl, rfl, rfl, rfl, rfl, rfl, trivial⟩
            clear F75
            refine kFin rfl ?_
            refine frNext ?_
            refine wp_seq ?_
            refine kGo ?_
            refine kTake (v := ?v77) F76 rfl rfl rfl rfl ?y77 (fun a77 F77 => ?h77)
            case y77 =>
              have e1 := F76.ev 1 rfl; have g1 := F76.get 1 _ rfl
              go_simp; try with_reducible rfl
            clear F76 a75
            refine kTake (v := ?v78) F77 rfl rfl rfl rfl ?y78 (fun a78 F78 => ?h78)
            case y78 =>
              have q := (O1.out.below HB).cs; have y6 := q.c6; clear q; have e62 := F77.ev 62 rfl; have g62 := F77.get 62 _ rfl
              go_simp; try with_reducible rfl
            clear F77 a77
            refine kTake (v := ?v79) F78 rfl rfl rfl rfl ?y79 (fun a79 F79 => ?h79)
            case y79 =>
              have e63 := F78.ev 63 rfl; have g63 := F78.get 63 _ rfl
              go_simp; try with_reducible rfl
            clear F78 a78
            refine kMove F79 rfl rfl rfl rfl rfl (fun a80 F80 => ?_)
            clear F79 a79
            have F81 := F80.sub (l' := [(1, .pointer (some ⟨w.heap.size, 0, none⟩)), (4, .bool b1), (5, .bool b2), (6, .bool b3), (7, .bool true), (8, .bool b5), (9, .bool b6), (10, v74), (63, .slice A n c), (64, .int .i64 n), (65, .int .i64 0)]) ⟨rfl, rfl, rfl, rfl, rfl, rfl, rfl, rfl, rfl, rfl, rfl, trivial⟩
            clear F80
            refine kFin rfl ?_
            refine frNext ?_
            refine frBlock ?_
            refine wp_loop (fun aL wL => ∃ (i : Nat) (v : Value), i ≤ n ∧ Fr aL 101 [(1, .pointer (some ⟨w.heap.size, 0, none⟩)), (4, .bool b1), (5, .bool b2), (6, .bool b3), (7, .bool true), (8, .bool b5), (9, .bool b6), (10, v), (63, .slice A n c), (64, .int .i64 n), (65, .int .i64 i)] ∧ OwnB 5 wL w1.heap.size v ((((p0 ++ p1) ++ p2) ++ p3) ++ (numB n ++ pathB (path.take i))) ∧ Below w1.heap.size w1 wL) (fun aL _ => n - (intOf (aL.tmps.getD 65 undef)).toNat) ?st ?rd
            case st => exact ⟨0, _, by omega, F81, by simpa [pathB] using HO, HB⟩
            case rd =>
              clear HO HB F81 a80
              rintro aL wL ⟨i, vi, hi, FL, HO, HB⟩
              rw [show intOf (aL.tmps.getD 65 undef) = (i : Int) by rw [FL.ev 65 rfl]; rfl]
              refine wp_seq ?_
              refine kGo ?_
              by_cases hlt : i < n
              · skip
                refine kTake (v := .bool true) FL rfl rfl rfl rfl ?y82 (fun a82 F82 => ?h82)
                case y82 =>
                  have e64 := FL.ev 64 rfl; have g64 := FL.get 64 _ rfl; have e65 := FL.ev 65 rfl; have g65 := FL.get 65 _ rfl
                  first | (go_simp; done) | (go_simp; omega)
                clear FL aL
                refine kFin rfl ?_
                refine frNext ?_
                refine wp_seq ?_
                refine frCond (b := true) F82 rfl ?_
                simp only [if_true]
                refine wp_skip ?_
                refine frNext ?_
                refine wp_seq ?_
                refine frBlock ?_
                refine wp_seq ?_
                obtain ⟨bb, oo', hA, hx⟩ := (L1.out.below HB).at_ (by omega)
                obtain ⟨z1, z2⟩ := hx i hlt
                clear hx
                have hmem : path.getD i (0, 0) ∈ path := by
                  rw [List.getD_eq_getElem?_getD, List.getElem?_eq_getElem (by omega), Option.getD_some]
                  exact List.getElem_mem _
                have hsr := hall _ hmem
                clear hmem
                generalize hp : path.getD i (0, 0) = p at *
                obtain ⟨x, y⟩ := p
                dsimp only at z1 z2 hsr
                have HPP := hid hp
                subst hA
                clear hp
                refine kGo ?_
                refine kTake (v := ?v83) F82 rfl rfl rfl rfl ?y83 (fun a83 F83 => ?h83)
                case y83 =>
                  have e63 := F82.ev 63 rfl; have g63 := F82.get 63 _ rfl; have e65 := F82.ev 65 rfl; have g65 := F82.get 65 _ rfl
                  first | (go_simp; done) | (go_simp; omega) | (go_simp; try with_reducible rfl)
                clear F82 a82
                refine kTake (v := ?v84) F83 rfl rfl rfl rfl ?y84 (fun a84 F84 => ?h84)
                case y84 =>
                  have e67 := F83.ev 67 rfl; have g67 := F83.get 67 _ rfl
                  go_simp; try with_reducible rfl
                clear F83 a83
                clear z1 z2
                refine kVal (v := ?v85) (w' := wL.alloc (so 0 0)) F84 rfl rfl rfl rfl ?y85 (fun a85 F85 => ?h85)
                case y85 =>
                  skip
                  go_simp; try with_reducible rfl
                clear F84 a84
                refine kStore (w' := wL.alloc (so x y)) F85 rfl rfl rfl ?y86 (fun a86 F86 => ?h86)
                case y86 =>
                  have e14 := F85.ev 14 rfl; have g14 := F85.get 14 _ rfl; have e68 := F85.ev 68 rfl; have g68 := F85.get 68 _ rfl
                  go_simp; try with_reducible rfl
                clear F85 a85
                have HO2 : OwnB 5 (wL.alloc (so x y)) w1.heap.size vi _ := owns_below HO (below_alloc1 wL (so x y))
                replace HB := below_then HB (below_alloc1 wL (so x y))
                have S1 := SAt.new wL x y _ rfl
                clear HO
                have HO := HO2
                clear HO2
                generalize hbz : wL.heap.size = bz at *
                generalize hwz : wL.alloc (so x y) = wZ at *
                clear hwz hbz
                have F87 := F86.sub (l' := [(1, .pointer (some ⟨w.heap.size, 0, none⟩)), (4, .bool b1), (5, .bool b2), (6, .bool b3), (7, .bool true), (8, .bool b5), (9, .bool b6), (10, vi), (63, .slice (some ⟨bb, oo', none⟩) n c), (64, .int .i64 n), (65, .int .i64 i), (14, .pointer (some ⟨bz, 0, none⟩))]) ⟨rfl, rfl, rfl, rfl, rfl, rfl, rfl, rfl, rfl, rfl, rfl, rfl, trivial⟩
                clear F86
                refine kFin rfl ?_
                refine frNext ?_
                refine kGo ?_
                refine kMove F87 rfl rfl rfl rfl rfl (fun a88 F88 => ?_)
                clear F87 a86
                refine kTake (v := ?v89) F88 rfl rfl rfl rfl ?y89 (fun a89 F89 => ?h89)
                case y89 =>
                  have c0 := S1.c0; have c1 := S1.c1; have e14 := F88.ev 14 rfl; have g14 := F88.get 14 _ rfl
                  go_simp; try with_reducible rfl
                clear F88 a88
                clear S1
                refine kCall F89 rfl rfl rfl rfl (opmark_any x y _ hsr) ?y90 ?h90
                case y90 =>
                  have e70 := F89.ev 70 rfl; have g70 := F89.get 70 _ rfl
                  go_simp; try with_reducible rfl
                rintro e wN ⟨u, rfl, ho, hb⟩
                obtain ⟨Au, nu, cu, rfl, hu, -⟩ := ho.form
                have hul := hu.len
                have HO2 : OwnB _ wN _ _ _ := owns_below HO hb
                replace HB := below_then HB hb
                clear HO ho hb
                have HO := HO2
                clear HO2
                refine ⟨_, rfl, fun a90 F90 => ?_⟩
                clear F89 a89
                have hst := stB_le hsr
                have hpl := pathB_le (path.take i) (fun p hp => hall p (List.mem_of_mem_take hp))
                have hst2 := numB_le n (by omega)
                have hpt := List.length_take_le i path
                have hp8 : (pathB (path.take i)).length ≤ 128 := by omega
                clear hpl hpt
                refine kAppB (w0 := w1) w1.heap.size F90 rfl rfl rfl rfl (t := 31) (e := 5) rfl Tryd.underlying31 info_u8 rfl rfl HO hu HB HB.size ?c91 ?h91
                case c91 => first | omega | (simp only [List.length_append]; omega)
                clear HO HB hu
                intro v91 w91x HO HB hg a91 F91
                clear hg
                clear F90 a90
                refine kMove F91 rfl rfl rfl rfl rfl (fun a92 F92 => ?_)
                clear F91 a91
                have F93 := F92.sub (l' := [(1, .pointer (some ⟨w.heap.size, 0, none⟩)), (4, .bool b1), (5, .bool b2), (6, .bool b3), (7, .bool true), (8, .bool b5), (9, .bool b6), (10, v91), (63, .slice (some ⟨bb, oo', none⟩) n c), (64, .int .i64 n), (65, .int .i64 i)]) ⟨rfl, rfl, rfl, rfl, rfl, rfl, rfl, rfl, rfl, rfl, rfl, trivial⟩
                clear F92
                refine kFin rfl ?_
                refine frBlkN ?_
                refine frNext ?_
                refine kGo ?_
                refine kTake (v := .int .i64 ((i + 1 : Nat) : Int)) F93 rfl rfl rfl rfl ?y94 (fun a94 F94 => ?h94)
                case y94 =>
                  have e65 := F93.ev 65 rfl; have g65 := F93.get 65 _ rfl
                  first | (go_simp; done) | (go_simp; simp only [IntKind.wrap_i64]; omega)
                clear F93 a92
                refine kMove F94 rfl rfl rfl rfl rfl (fun a95 F95 => ?_)
                clear F94 a94
                have F96 := F95.sub (l' := [(1, .pointer (some ⟨w.heap.size, 0, none⟩)), (4, .bool b1), (5, .bool b2), (6, .bool b3), (7, .bool true), (8, .bool b5), (9, .bool b6), (10, v91), (63, .slice (some ⟨bb, oo', none⟩) n c), (64, .int .i64 n), (65, .int .i64 ((i + 1 : Nat) : Int))]) ⟨rfl, rfl, rfl, rfl, rfl, rfl, rfl, rfl, rfl, rfl, rfl, trivial⟩
                clear F95
                refine kFin rfl ?_
                rw [show ((((p0 ++ p1) ++ p2) ++ p3) ++ (numB n ++ pathB (path.take i))) ++ stB x y = (((p0 ++ p1) ++ p2) ++ p3) ++ (numB n ++ pathB (path.take (i + 1))) by rw [pathB_snoc path i x y (by omega) HPP.out]; simp only [List.append_assoc]] at HO
                refine frThenN ⟨⟨i + 1, _, by omega, F96, HO, HB⟩, ?_⟩
                rw [show intOf (a95.tmps.getD 65 undef) = ((i + 1 : Nat) : Int) by rw [F96.ev 65 rfl]; rfl]
                omega
              · skip
                refine kTake (v := .bool false) FL rfl rfl rfl rfl ?y97 (fun a97 F97 => ?h97)
                case y97 =>
                  have e64 := FL.ev 64 rfl; have g64 := FL.get 64 _ rfl; have e65 := FL.ev 65 rfl; have g65 := FL.get 65 _ rfl
                  first | (go_simp; done) | (go_simp; omega)
                clear FL aL
                have F98 := F97.sub (l' := [(1, .pointer (some ⟨w.heap.size, 0, none⟩)), (4, .bool b1), (5, .bool b2), (6, .bool b3), (7, .bool true), (8, .bool b5), (9, .bool b6), (10, vi), (66, .bool false)]) ⟨rfl, rfl, rfl, rfl, rfl, rfl, rfl, rfl, rfl, trivial⟩
                clear F97
                refine kFin rfl ?_
                refine frNext ?_
                refine wp_seq ?_
                refine frCond (b := false) F98 rfl ?_
                simp only [Bool.false_eq_true, if_false]
                refine wp_exit ?_
                refine frThenE ?_
                refine frThenE ?_
                refine frBlkE ?_
                have F99 := F98.sub (l' := [(1, .pointer (some ⟨w.heap.size, 0, none⟩)), (4, .bool b1), (5, .bool b2), (6, .bool b3), (7, .bool true), (8, .bool b5), (9, .bool b6), (10, vi)]) ⟨rfl, rfl, rfl, rfl, rfl, rfl, rfl, rfl, trivial⟩
                clear F98
                have hin : i = n := by omega
                subst hin
                rw [← hln, List.take_length, ← show p4 = numB path.length ++ pathB path from E4.out] at HO
                exact J4 _ _ _ F99 HO HB
        refine wp_seq ?_
        refine kGo ?_
        refine kMove F2J rfl rfl rfl rfl rfl (fun a100 F100 => ?_)
        clear F2J a2J
        refine kFin rfl ?_
        refine frNext ?_
        rcases b3 with _ | _
        · skip
          refine frCond (b := false) F100 rfl ?_
          simp only [Bool.false_eq_true, if_false]
          have F101 := F100.sub (l' := [(1, .pointer (some ⟨w.heap.size, 0, none⟩)), (4, .bool b1), (5, .bool b2), (6, .bool false), (7, .bool b4), (8, .bool b5), (9, .bool b6), (10, v2J)]) ⟨rfl, rfl, rfl, rfl, rfl, rfl, rfl, rfl, trivial⟩
          clear F100
          refine wp_skip ?_
          have e : p3 = [] := E3.out
          rw [show ((p0 ++ p1) ++ p2) = (((p0 ++ p1) ++ p2) ++ p3) by rw [e, List.append_nil]] at HO
          exact J3 _ _ _ F101 HO HB
        · skip
          refine frCond (b := true) F100 rfl ?_
          simp only [if_true]
          refine wp_seq ?_
          refine kGo ?_
          refine kTake (v := ?v102) F100 rfl rfl rfl rfl ?y102 (fun a102 F102 => ?h102)
          case y102 =>
            have e1 := F100.ev 1 rfl; have g1 := F100.get 1 _ rfl
            go_simp; try with_reducible rfl
          clear F100 a100
          refine kTake (v := ?v103) F102 rfl rfl rfl rfl ?y103 (fun a103 F103 => ?h103)
          case y103 =>
            have q := (O1.out.below HB).cs; have y5 := q.c5; clear q; have e47 := F102.ev 47 rfl; have g47 := F102.get 47 _ rfl
            go_simp; try with_reducible rfl
          clear F102 a102
          refine kCall F103 rfl rfl rfl rfl (Text_ok key _ (by have := P3.out rfl; omega)) ?y104 ?h104
          case y104 =>
            have e48 := F103.ev 48 rfl; have g48 := F103.get 48 _ rfl
            go_simp; try with_reducible rfl
          rintro e wN ⟨u, rfl, ho, hb⟩
          obtain ⟨Au, nu, cu, rfl, hu, -⟩ := ho.form
          have hul := hu.len
          have HO2 : OwnB _ wN _ _ _ := owns_below HO hb
          replace HB := below_then HB hb
          clear HO ho hb
          have HO := HO2
          clear HO2
          refine ⟨_, rfl, fun a104 F104 => ?_⟩
          clear F103 a103
          refine kMove F104 rfl rfl rfl rfl rfl (fun a105 F105 => ?_)
          clear F104 a104
          refine kMove F105 rfl rfl rfl rfl rfl (fun a106 F106 => ?_)
          clear F105 a105
          refine kMove F106 rfl rfl rfl rfl rfl (fun a107 F107 => ?_)
          clear F106 a106
          refine kMove F107 rfl rfl rfl rfl rfl (fun a108 F108 => ?_)
          clear F107 a107
          refine kMove F108 rfl rfl rfl rfl rfl (fun a109 F109 => ?_)
          clear F108 a108
          refine kFin rfl ?_
          refine frNext ?_
          refine kGo ?_
          refine kMove F109 rfl rfl rfl rfl rfl (fun a110 F110 => ?_)
          clear F109 a109
          refine kMove F110 rfl rfl rfl rfl rfl (fun a111 F111 => ?_)
          clear F110 a110
          have hst : (textB key.data.toList).length ≤ 40 := by rw [← show p3 = textB key.data.toList from E3.out]; exact hq3
          refine kAppB (w0 := w1) w1.heap.size F111 rfl rfl rfl rfl (t := 31) (e := 5) rfl Tryd.underlying31 info_u8 rfl rfl HO hu HB HB.size ?c112 ?h112
          case c112 => first | omega | (simp only [List.length_append]; omega)
          clear HO HB hu
          intro v112 w112x HO HB hg a112 F112
          clear hg
          clear F111 a111
          refine kMove F112 rfl rfl rfl rfl rfl (fun a113 F113 => ?_)
          clear F112 a112
          have F114 := F113.sub (l' := [(1, .pointer (some ⟨w.heap.size, 0, none⟩)), (4, .bool b1), (5, .bool b2), (6, .bool true), (7, .bool b4), (8, .bool b5), (9, .bool b6), (10, v112)]) ⟨rfl, rfl, rfl, rfl, rfl, rfl, rfl, rfl, trivial⟩
          clear F113
          refine kFin rfl ?_
          rw [← show p3 = textB key.data.toList from E3.out] at HO
          exact J3 _ _ _ F114 HO HB
      refine wp_seq ?_
      refine kGo ?_
      refine kMove F1J rfl rfl rfl rfl rfl (fun a115 F115 => ?_)
      clear F1J a1J
      refine kFin rfl ?_
      refine frNext ?_
      rcases b2 with _ | _
      · skip
        refine frCond (b := false) F115 rfl ?_
        simp only [Bool.false_eq_true, if_false]
        have F116 := F115.sub (l' := [(1, .pointer (some ⟨w.heap.size, 0, none⟩)), (4, .bool b1), (5, .bool false), (6, .bool b3), (7, .bool b4), (8, .bool b5), (9, .bool b6), (10, v1J)]) ⟨rfl, rfl, rfl, rfl, rfl, rfl, rfl, rfl, trivial⟩
        clear F115
        refine wp_skip ?_
        have e : p2 = [] := E2.out
        rw [show (p0 ++ p1) = ((p0 ++ p1) ++ p2) by rw [e, List.append_nil]] at HO
        exact J2 _ _ _ F116 HO HB
      · skip
        refine frCond (b := true) F115 rfl ?_
        simp only [if_true]
        refine kGo ?_
        refine kMove F115 rfl rfl rfl rfl rfl (fun a117 F117 => ?_)
        clear F115 a115
        refine kTake (v := ?v118) F117 rfl rfl rfl rfl ?y118 (fun a118 F118 => ?h118)
        case y118 =>
          have e1 := F117.ev 1 rfl; have g1 := F117.get 1 _ rfl
          go_simp; try with_reducible rfl
        clear F117 a117
        refine kTake (v := ?v119) F118 rfl rfl rfl rfl ?y119 (fun a119 F119 => ?h119)
        case y119 =>
          have q := (O1.out.below HB).cs; have y3 := q.c3; have y4 := q.c4; clear q; have e41 := F118.ev 41 rfl; have g41 := F118.get 41 _ rfl
          go_simp; try with_reducible rfl
        clear F118 a118
        refine kCall F119 rfl rfl rfl rfl (opmark_any r1 r2 _ (P2.out rfl)) ?y120 ?h120
        case y120 =>
          have e42 := F119.ev 42 rfl; have g42 := F119.get 42 _ rfl
          go_simp; try with_reducible rfl
        rintro e wN ⟨u, rfl, ho, hb⟩
        obtain ⟨Au, nu, cu, rfl, hu, -⟩ := ho.form
        have hul := hu.len
        have HO2 : OwnB _ wN _ _ _ := owns_below HO hb
        replace HB := below_then HB hb
        clear HO ho hb
        have HO := HO2
        clear HO2
        refine ⟨_, rfl, fun a120 F120 => ?_⟩
        clear F119 a119
        have hst := stB_le (P2.out rfl)
        refine kAppB (w0 := w1) w1.heap.size F120 rfl rfl rfl rfl (t := 31) (e := 5) rfl Tryd.underlying31 info_u8 rfl rfl HO hu HB HB.size ?c121 ?h121
        case c121 => first | omega | (simp only [List.length_append]; omega)
        clear HO HB hu
        intro v121 w121x HO HB hg a121 F121
        clear hg
        clear F120 a120
        refine kMove F121 rfl rfl rfl rfl rfl (fun a122 F122 => ?_)
        clear F121 a121
        have F123 := F122.sub (l' := [(1, .pointer (some ⟨w.heap.size, 0, none⟩)), (4, .bool b1), (5, .bool true), (6, .bool b3), (7, .bool b4), (8, .bool b5), (9, .bool b6), (10, v121)]) ⟨rfl, rfl, rfl, rfl, rfl, rfl, rfl, rfl, trivial⟩
        clear F122
        refine kFin rfl ?_
        rw [← show p2 = stB r1 r2 from E2.out] at HO
        exact J2 _ _ _ F123 HO HB
    refine wp_seq ?_
    refine kGo ?_
    refine kMove F22 rfl rfl rfl rfl rfl (fun a124 F124 => ?_)
    clear F22 a21
    refine kFin rfl ?_
    refine frNext ?_
    rcases b1 with _ | _
    · skip
      refine frCond (b := false) F124 rfl ?_
      simp only [Bool.false_eq_true, if_false]
      have F125 := F124.sub (l' := [(1, .pointer (some ⟨w.heap.size, 0, none⟩)), (4, .bool false), (5, .bool b2), (6, .bool b3), (7, .bool b4), (8, .bool b5), (9, .bool b6), (10, u)]) ⟨rfl, rfl, rfl, rfl, rfl, rfl, rfl, rfl, trivial⟩
      clear F124
      refine wp_skip ?_
      have e : p1 = [] := E1.out
      rw [show p0 = (p0 ++ p1) by rw [e, List.append_nil]] at HO
      exact J1 _ _ _ F125 HO HB
    · skip
      refine frCond (b := true) F124 rfl ?_
      simp only [if_true]
      refine kGo ?_
      refine kMove F124 rfl rfl rfl rfl rfl (fun a126 F126 => ?_)
      clear F124 a124
      refine kTake (v := ?v127) F126 rfl rfl rfl rfl ?y127 (fun a127 F127 => ?h127)
      case y127 =>
        have e1 := F126.ev 1 rfl; have g1 := F126.get 1 _ rfl
        go_simp; try with_reducible rfl
      clear F126 a126
      refine kTake (v := ?v128) F127 rfl rfl rfl rfl ?y128 (fun a128 F128 => ?h128)
      case y128 =>
        have q := (O1.out.below HB).cs; have y1 := q.c1; have y2 := q.c2; clear q; have e35 := F127.ev 35 rfl; have g35 := F127.get 35 _ rfl
        go_simp; try with_reducible rfl
      clear F127 a127
      refine kCall F128 rfl rfl rfl rfl (opmark_any n1 n2 _ (P1.out rfl)) ?y129 ?h129
      case y129 =>
        have e36 := F128.ev 36 rfl; have g36 := F128.get 36 _ rfl
        go_simp; try with_reducible rfl
      rintro e wN ⟨u, rfl, ho, hb⟩
      obtain ⟨Au, nu, cu, rfl, hu, -⟩ := ho.form
      have hul := hu.len
      have HO2 : OwnB _ wN _ _ _ := owns_below HO hb
      replace HB := below_then HB hb
      clear HO ho hb
      have HO := HO2
      clear HO2
      refine ⟨_, rfl, fun a129 F129 => ?_⟩
      clear F128 a128
      have hst := stB_le (P1.out rfl)
      refine kAppB (w0 := w1) w1.heap.size F129 rfl rfl rfl rfl (t := 31) (e := 5) rfl Tryd.underlying31 info_u8 rfl rfl HO hu HB HB.size ?c130 ?h130
      case c130 => first | omega | (simp only [List.length_append]; omega)
      clear HO HB hu
      intro v130 w130x HO HB hg a130 F130
      clear hg
      clear F129 a129
      refine kMove F130 rfl rfl rfl rfl rfl (fun a131 F131 => ?_)
      clear F130 a130
      have F132 := F131.sub (l' := [(1, .pointer (some ⟨w.heap.size, 0, none⟩)), (4, .bool true), (5, .bool b2), (6, .bool b3), (7, .bool b4), (8, .bool b5), (9, .bool b6), (10, v130)]) ⟨rfl, rfl, rfl, rfl, rfl, rfl, rfl, rfl, trivial⟩
      clear F131
      refine kFin rfl ?_
      rw [← show p1 = stB n1 n2 from E1.out] at HO
      exact J1 _ _ _ F132 HO HB
end Go.Proofs.YtnakanophilfhaaDoor
