/- Layer 7: op.Take reads an op of a reader. -/
import Derived.Test.YtnakanophilfhaaDoorOR
import Derived.Test.YtnakanophilfhaaDoorOTk
namespace Go.Proofs.YtnakanophilfhaaDoor
open Go.RowKit Go.Dio
set_option linter.unusedVariables false
set_option linter.unusedSimpArgs false

set_option maxRecDepth 100000 in
set_option maxHeartbeats 4000000 in
theorem OTake_any (base rb : Nat) (s : Rst) (w : World) (h : RdrAt w base rb s) (hg : RootsAt w) (hb : 2 ≤ base) :
    Calls Tryd.prog 23 #[.pointer (some ⟨rb, 0, none⟩)] w fun e w' => ∃ A n c, e = .returned (opv (tOp s).1 A n c) ∧ IsSt w' A n c (tOp s).1.path ∧ (∀ a, A = some a → w.heap.size ≤ a.block ∧ a.block < w'.heap.size) ∧ RdrAt w' base rb (tOp s).2 ∧ w.grownBy w' (some rb) ∧ (tOp s).1.key.size ≤ 9223372036854775807 ∧ (tOp s).1.vt.size ≤ 9223372036854775807 := by
  rcases hk : rUpto 281474976710655 s with ⟨k, s0⟩
  rcases hn : rdNode k s0 with ⟨⟨n1, n2⟩, s1⟩
  rcases hr : rdRef k s1 with ⟨⟨r1, r2⟩, s2⟩
  rcases hy : rdKey k s2 with ⟨y, s3⟩
  rcases hp : rdPath k s3 with ⟨path, s4⟩
  rcases hv : rdProp k s4 with ⟨⟨prop, vk, vn, vt⟩, s5⟩
  rcases ho : rdOn k s5 with ⟨on, s6⟩
  have HT := hid (show tOp s = opLook ⟨k, n1, n2, r1, r2, mkS y, path, prop, vk, vn, vt, on⟩ s6 by simp only [tOp, opRead, hk, hn, hr, hy, hp, hv, ho])
  unfold rdNode at hn; unfold rdRef at hr; unfold rdKey at hy; unfold rdPath at hp; unfold rdProp at hv; unfold rdOn at ho
  have hrb := h.lt
  have hlo := h.lo
  have HG := hid hg
  clear hg
  generalize hb1 : pNode k = b1 at *
  generalize hb2 : pRef k = b2 at *
  generalize hb3 : pKey k = b3 at *
  generalize hb4 : pPath k = b4 at *
  generalize hb5 : pProp k = b5 at *
  generalize hb6 : pOn k = b6 at *
  have HP := hid (show partsV k = .tuple #[.bool b1, .bool b2, .bool b3, .bool b4, .bool b5, .bool b6] by unfold partsV; rw [hb1, hb2, hb3, hb4, hb5, hb6])
  have HK := hid hk; have EN := hid hn; have ER := hid hr; have EY := hid hy; have EP := hid hp; have EV := hid hv; have EO := hid ho
  clear hb1 hb2 hb3 hb4 hb5 hb6 hk hn hr hy hp hv ho
  refine frCall (args := [.pointer (some ⟨rb, 0, none⟩)]) (N := 70) Tryd.func23 rfl rfl rfl (fun a0 F0 => ?_)
  refine wp_seq ?_
  refine kGo ?_
  refine kVal (v := ?v1) (w' := w.alloc (oo opNil none 0 0)) F0 rfl rfl rfl rfl ?y1 (fun a1 F1 => ?h1)
  case y1 =>
    skip
    go_simp
    all_goals (first | with_reducible rfl | (constructor <;> first | with_reducible rfl | rfl) | skip)
  clear F0 a0
  have R1 := h.below (below_alloc1 w (oo opNil none 0 0))
  have O1 := OAt.new w opNil none 0 0 _ rfl
  have G1 := grown_then (World.grownBy.refl w (some rb)) (below_alloc1 w (oo opNil none 0 0))
  generalize hw1 : w.alloc (oo opNil none 0 0) = w1 at *
  clear hw1
  refine kFin rfl ?_
  refine frNext ?_
  refine wp_seq ?_
  refine kGo ?_
  refine kMove F1 rfl rfl rfl rfl rfl (fun a2 F2 => ?_)
  clear F1 a1
  have hc := Num_r base rb s _ R1
  rw [HK.out] at hc
  dsimp only at hc
  clear R1
  refine kCall F2 rfl rfl rfl rfl (hc) ?y3 ?h3
  case y3 =>
    have e10 := F2.ev 10 rfl; have g10 := F2.get 10 _ rfl
    go_simp; try with_reducible rfl
  rintro e wN ⟨rfl, hr, hg⟩
  have O2 := O1.grown hg (by simp; omega)
  have G2 := grown_trans G1 hg
  clear O1 G1 hg
  refine ⟨_, rfl, fun a3 F3 => ?_⟩
  clear F2 a2
  refine kTake (v := opv ⟨k, 0, 0, 0, 0, ⟨#[]⟩, [], 0, 0, 0, ⟨#[]⟩, false⟩ none 0 0) F3 rfl rfl rfl rfl ?y4 (fun a4 F4 => ?h4)
  case y4 =>
    have e11 := F3.ev 11 rfl; have g11 := F3.get 11 _ rfl
    go_simp; try with_reducible rfl
  clear F3 a3
  refine kVal (v := ?v5) (w' := wN.alloc (oo opNil none 0 0)) F4 rfl rfl rfl rfl ?y5 (fun a5 F5 => ?h5)
  case y5 =>
    skip
    go_simp
    all_goals (first | with_reducible rfl | (constructor <;> first | with_reducible rfl | rfl) | skip)
  clear F4 a4
  refine kStore (w' := wN.alloc (oo ⟨k, 0, 0, 0, 0, ⟨#[]⟩, [], 0, 0, 0, ⟨#[]⟩, false⟩ none 0 0)) F5 rfl rfl rfl ?y6 (fun a6 F6 => ?h6)
  case y6 =>
    have e3 := F5.ev 3 rfl; have g3 := F5.get 3 _ rfl; have e12 := F5.ev 12 rfl; have g12 := F5.get 12 _ rfl
    go_simp; try with_reducible rfl
  clear F5 a5
  have F7 := F6.sub (l' := [(0, .pointer (some ⟨rb, 0, none⟩)), (2, .pointer (some ⟨w.heap.size, 0, none⟩)), (3, .pointer (some ⟨wN.heap.size, 0, none⟩))]) ⟨rfl, rfl, rfl, trivial⟩
  clear F6
  have hb2' := below_alloc1 wN (oo ⟨k, 0, 0, 0, 0, ⟨#[]⟩, [], 0, 0, 0, ⟨#[]⟩, false⟩ none 0 0)
  have T : TkAt w (wN.alloc (oo ⟨k, 0, 0, 0, 0, ⟨#[]⟩, [], 0, 0, 0, ⟨#[]⟩, false⟩ none 0 0)) base rb w.heap.size wN.heap.size s0 ⟨k, 0, 0, 0, 0, ⟨#[]⟩, [], 0, 0, 0, ⟨#[]⟩, false⟩ none 0 0 :=
    ⟨hr.below hb2', OAt.new wN ⟨k, 0, 0, 0, 0, ⟨#[]⟩, [], 0, 0, 0, ⟨#[]⟩, false⟩ none 0 0 _ rfl, O2.below hb2', World.ownsRow_nil _ _ _ _, OwnAll.nil _ _, grown_then G2 hb2', hrb, Nat.le_refl _, G2.size, (by have := O2.lt; omega), fun k hk => by cases hk⟩
  clear hr O2 G2 hb2'
  generalize wN.heap.size = X at *
  generalize wN.alloc (oo ⟨k, 0, 0, 0, 0, ⟨#[]⟩, [], 0, 0, 0, ⟨#[]⟩, false⟩ none 0 0) = w2 at *
  generalize hRR : w.heap.size = RR at *
  have HRR := hid hRR
  clear hRR
  refine kFin rfl ?_
  refine frNext ?_
  refine wp_seq ?_
  refine kGo ?_
  refine kTake (v := ?v8) F7 rfl rfl rfl rfl ?y8 (fun a8 F8 => ?h8)
  case y8 =>
    have e3 := F7.ev 3 rfl; have g3 := F7.get 3 _ rfl
    go_simp; try with_reducible rfl
  clear F7 a6
  refine kTake (v := ?v9) F8 rfl rfl rfl rfl ?y9 (fun a9 F9 => ?h9)
  case y9 =>
    have q := T.x.cs; have y0 := q.c0; clear q; have e14 := F8.ev 14 rfl; have g14 := F8.get 14 _ rfl
    go_simp; try with_reducible rfl
  clear F8 a8
  refine kCall F9 rfl rfl rfl rfl (parts_any k _) ?y10 ?h10
  case y10 =>
    have e15 := F9.ev 15 rfl; have g15 := F9.get 15 _ rfl
    go_simp; try with_reducible rfl
  rw [HP.out]
  rintro e wN ⟨rfl, rfl⟩
  refine ⟨_, rfl, fun a10 F10 => ?_⟩
  clear F9 a9
  refine kMove F10 rfl rfl rfl rfl rfl (fun a11 F11 => ?_)
  clear F10 a10
  refine kRuns 12 F11 rfl (fun a12 F12 => ?_)
  clear F11 a11
  have F13 := F12.sub (l' := [(0, .pointer (some ⟨rb, 0, none⟩)), (2, .pointer (some ⟨RR, 0, none⟩)), (3, .pointer (some ⟨X, 0, none⟩)), (4, .bool b1), (5, .bool b2), (6, .bool b3), (7, .bool b4), (8, .bool b5), (9, .bool b6)]) ⟨rfl, rfl, rfl, rfl, rfl, rfl, rfl, rfl, rfl, trivial⟩
  clear F12
  refine kFin rfl ?_
  refine frNext ?_
  refine wp_seq_k (fun K1 k1 => ?_)
  have J1 : ∀ aJ wJ, Fr aJ 70 [(0, .pointer (some ⟨rb, 0, none⟩)), (2, .pointer (some ⟨RR, 0, none⟩)), (3, .pointer (some ⟨X, 0, none⟩)), (4, .bool b1), (5, .bool b2), (6, .bool b3), (7, .bool b4), (8, .bool b5), (9, .bool b6)] → TkAt w wJ base rb RR X s1 ⟨k, n1, n2, 0, 0, ⟨#[]⟩, [], 0, 0, 0, ⟨#[]⟩, false⟩ none 0 0 → K1 aJ wJ := by
    clear T F13 a12
    intro a1J w1J F1J T
    refine k1 _ _ ?_
    clear k1 K1
    refine wp_seq_k (fun K2 k2 => ?_)
    have J2 : ∀ aJ wJ, Fr aJ 70 [(0, .pointer (some ⟨rb, 0, none⟩)), (2, .pointer (some ⟨RR, 0, none⟩)), (3, .pointer (some ⟨X, 0, none⟩)), (4, .bool b1), (5, .bool b2), (6, .bool b3), (7, .bool b4), (8, .bool b5), (9, .bool b6)] → TkAt w wJ base rb RR X s2 ⟨k, n1, n2, r1, r2, ⟨#[]⟩, [], 0, 0, 0, ⟨#[]⟩, false⟩ none 0 0 → K2 aJ wJ := by
      clear T F1J a1J
      intro a2J w2J F2J T
      refine k2 _ _ ?_
      clear k2 K2
      refine wp_seq_k (fun K3 k3 => ?_)
      have J3 : ∀ aJ wJ, Fr aJ 70 [(0, .pointer (some ⟨rb, 0, none⟩)), (2, .pointer (some ⟨RR, 0, none⟩)), (3, .pointer (some ⟨X, 0, none⟩)), (4, .bool b1), (5, .bool b2), (6, .bool b3), (7, .bool b4), (8, .bool b5), (9, .bool b6)] → TkAt w wJ base rb RR X s3 ⟨k, n1, n2, r1, r2, mkS y, [], 0, 0, 0, ⟨#[]⟩, false⟩ none 0 0 → (mkS y).size ≤ 9223372036854775807 → K3 aJ wJ := by
        clear T F2J a2J
        intro a3J w3J F3J T hx3
        refine k3 _ _ ?_
        clear k3 K3
        refine wp_seq_k (fun K4 k4 => ?_)
        have J4 : ∀ aJ wJ, Fr aJ 70 [(0, .pointer (some ⟨rb, 0, none⟩)), (2, .pointer (some ⟨RR, 0, none⟩)), (3, .pointer (some ⟨X, 0, none⟩)), (4, .bool b1), (5, .bool b2), (6, .bool b3), (7, .bool b4), (8, .bool b5), (9, .bool b6)] → ∀ A n c, TkAt w wJ base rb RR X s4 ⟨k, n1, n2, r1, r2, mkS y, path, 0, 0, 0, ⟨#[]⟩, false⟩ A n c → K4 aJ wJ := by
          clear T F3J a3J
          intro a4J w4J F4J A n c T
          refine k4 _ _ ?_
          clear k4 K4
          refine wp_seq_k (fun K5 k5 => ?_)
          have J5 : ∀ aJ wJ, Fr aJ 70 [(0, .pointer (some ⟨rb, 0, none⟩)), (2, .pointer (some ⟨RR, 0, none⟩)), (3, .pointer (some ⟨X, 0, none⟩)), (4, .bool b1), (5, .bool b2), (6, .bool b3), (7, .bool b4), (8, .bool b5), (9, .bool b6)] → ∀ A n c, TkAt w wJ base rb RR X s5 ⟨k, n1, n2, r1, r2, mkS y, path, prop, vk, vn, vt, false⟩ A n c → vt.size ≤ 9223372036854775807 → K5 aJ wJ := by
            clear T F4J a4J
            intro a5J w5J F5J A n c T hx5
            refine k5 _ _ ?_
            clear k5 K5
            refine wp_seq_k (fun K6 k6 => ?_)
            have J6 : ∀ aJ wJ, Fr aJ 70 [(0, .pointer (some ⟨rb, 0, none⟩)), (2, .pointer (some ⟨RR, 0, none⟩)), (3, .pointer (some ⟨X, 0, none⟩)), (4, .bool b1), (5, .bool b2), (6, .bool b3), (7, .bool b4), (8, .bool b5), (9, .bool b6)] → ∀ A n c, TkAt w wJ base rb RR X s6 ⟨k, n1, n2, r1, r2, mkS y, path, prop, vk, vn, vt, on⟩ A n c → K6 aJ wJ := by
              clear T F5J a5J
              intro a6J w6J F6J A n c T
              refine k6 _ _ ?_
              clear k6 K6
              refine wp_seq_k (fun K7 k7 => ?_)
              have J7 : ∀ aJ wJ s7, Fr aJ 70 [(0, .pointer (some ⟨rb, 0, none⟩)), (2, .pointer (some ⟨RR, 0, none⟩)), (3, .pointer (some ⟨X, 0, none⟩))] → TkAt w wJ base rb RR X s7 ⟨k, n1, n2, r1, r2, mkS y, path, prop, vk, vn, vt, on⟩ A n c → (s7 = if oright ⟨k, n1, n2, r1, r2, mkS y, path, prop, vk, vn, vt, on⟩ = true then s6 else rFail s6 21) → K7 aJ wJ := by
                clear T F6J a6J
                intro a7J w7J s7 F7J T hs7
                refine k7 _ _ ?_
                have HS7 := hid hs7
                clear hs7
                clear k7 K7
                refine wp_seq ?_
                refine wp_seq ?_
                refine kGo ?_
                refine kMove F7J rfl rfl rfl rfl rfl (fun a14 F14 => ?_)
                clear F7J a7J
                refine kCall F14 rfl rfl rfl rfl (Err_r base rb s7 _ T.rdr) ?y15 ?h15
                case y15 =>
                  have e65 := F14.ev 65 rfl; have g65 := F14.get 65 _ rfl
                  go_simp; try with_reducible rfl
                rintro e wN ⟨rfl, rfl⟩
                refine ⟨_, rfl, fun a15 F15 => ?_⟩
                clear F14 a14
                by_cases hz : ¬ s7.2 = 0
                · skip
                  have hz2 : (s7.2 == 0) = false := by simp [hz]
                  refine kTake (v := .bool true) F15 rfl rfl rfl rfl ?y16 (fun a16 F16 => ?h16)
                  case y16 =>
                    have e66 := F15.ev 66 rfl; have g66 := F15.get 66 _ rfl
                    go_simp; try with_reducible rfl
                  clear F15 a15
                  refine kFin rfl ?_
                  refine frNext ?_
                  refine frCond (b := true) F16 rfl ?_
                  simp only [if_true]
                  refine wp_seq ?_
                  refine kGo ?_
                  refine kTake (v := opv ⟨0, 0, 0, 0, 0, ⟨#[]⟩, [], 0, 0, 0, ⟨#[]⟩, false⟩ none 0 0) F16 rfl rfl rfl rfl ?y17 (fun a17 F17 => ?h17)
                  case y17 =>
                    skip
                    go_simp; try with_reducible rfl
                  clear F16 a16
                  refine kStore (w' := outW w7J RR ⟨0, 0, 0, 0, 0, ⟨#[]⟩, [], 0, 0, 0, ⟨#[]⟩, false⟩ none 0 0) F17 rfl rfl rfl ?y18 (fun a18 F18 => ?_)
                  case y18 =>
                    unfold outW
                    dsimp only
                    have q := T.r.cs; have y0 := q.c0; have y1 := q.c1; have y2 := q.c2; have y3 := q.c3; have y4 := q.c4; have y5 := q.c5; have y6 := q.c6; have y7 := q.c7; have y8 := q.c8; have y9 := q.c9; have y10 := q.c10; have y11 := q.c11; clear q; have f0 := T.r.fz 0; have f1 := T.r.fz 1; have f2 := T.r.fz 2; have f3 := T.r.fz 3; have f4 := T.r.fz 4; have f5 := T.r.fz 5; have f6 := T.r.fz 6; have f7 := T.r.fz 7; have f8 := T.r.fz 8; have f9 := T.r.fz 9; have f10 := T.r.fz 10; have f11 := T.r.fz 11; have e2 := F17.ev 2 rfl; have g2 := F17.get 2 _ rfl; have e68 := F17.ev 68 rfl; have g68 := F17.get 68 _ rfl
                    go_simp; try with_reducible rfl
                  clear F17 a17
                  refine kFin rfl ?_
                  obtain ⟨TO, TR, TG, TS, TA⟩ := T.out ⟨0, 0, 0, 0, 0, ⟨#[]⟩, [], 0, 0, 0, ⟨#[]⟩, false⟩ none 0 0
                  clear T
                  generalize outW w7J RR ⟨0, 0, 0, 0, 0, ⟨#[]⟩, [], 0, 0, 0, ⟨#[]⟩, false⟩ none 0 0 = wO at *
                  refine frNext ?_
                  refine wp_ret ?_
                  refine frThenRet ?_
                  refine frRetC rfl F18 rfl (v := opv ⟨0, 0, 0, 0, 0, ⟨#[]⟩, [], 0, 0, 0, ⟨#[]⟩, false⟩ none 0 0) ?yl ?_
                  case yl =>
                    have q := TO.cs; have y0 := q.c0; have y1 := q.c1; have y2 := q.c2; have y3 := q.c3; have y4 := q.c4; have y5 := q.c5; have y6 := q.c6; have y7 := q.c7; have y8 := q.c8; have y9 := q.c9; have y10 := q.c10; have y11 := q.c11; clear q
                    go_simp; try with_reducible rfl
                  have hs7 := HS7.out
                  have hRR := HRR.out
                  subst hRR
                  have hfin : tOp s = (opNil, s7) := by
                    rw [HT.out]
                    unfold opLook
                    rcases hor : oright ⟨k, n1, n2, r1, r2, mkS y, path, prop, vk, vn, vt, on⟩ with _ | _
                    · rw [hor] at hs7
                      simp only [Bool.false_eq_true, if_false] at hs7 ⊢
                      rw [hs7]
                    · rw [hor] at hs7
                      simp only [if_true] at hs7 ⊢
                      rw [if_neg (by rw [← hs7]; exact hz), hs7]
                  rw [hfin]
                  exact ⟨none, 0, 0, rfl, ⟨rfl, Nat.le_refl _, by omega, .inl rfl⟩, (fun a ha => by cases ha), TR, TG, (show opNil.key.size ≤ 9223372036854775807 by decide), (show opNil.vt.size ≤ 9223372036854775807 by decide)⟩
                · skip
                  replace hz : s7.2 = 0 := by omega
                  have hz2 : (s7.2 == 0) = true := by simp [hz]
                  refine kTake (v := .bool false) F15 rfl rfl rfl rfl ?y19 (fun a19 F19 => ?h19)
                  case y19 =>
                    have e66 := F15.ev 66 rfl; have g66 := F15.get 66 _ rfl
                    go_simp; try with_reducible rfl
                  clear F15 a15
                  refine kFin rfl ?_
                  refine frNext ?_
                  refine frCond (b := false) F19 rfl ?_
                  simp only [Bool.false_eq_true, if_false]
                  refine wp_skip ?_
                  refine frNext ?_
                  refine wp_seq ?_
                  refine kGo ?_
                  refine kTake (v := opv ⟨k, n1, n2, r1, r2, mkS y, path, prop, vk, vn, vt, on⟩ A n c) F19 rfl rfl rfl rfl ?y20 (fun a20 F20 => ?h20)
                  case y20 =>
                    have q := T.x.cs; have y0 := q.c0; have y1 := q.c1; have y2 := q.c2; have y3 := q.c3; have y4 := q.c4; have y5 := q.c5; have y6 := q.c6; have y7 := q.c7; have y8 := q.c8; have y9 := q.c9; have y10 := q.c10; have y11 := q.c11; clear q; have e3 := F19.ev 3 rfl; have g3 := F19.get 3 _ rfl
                    go_simp; try with_reducible rfl
                  clear F19 a19
                  refine kStore (w' := outW w7J RR ⟨k, n1, n2, r1, r2, mkS y, path, prop, vk, vn, vt, on⟩ A n c) F20 rfl rfl rfl ?y21 (fun a21 F21 => ?_)
                  case y21 =>
                    unfold outW
                    dsimp only
                    have q := T.r.cs; have y0 := q.c0; have y1 := q.c1; have y2 := q.c2; have y3 := q.c3; have y4 := q.c4; have y5 := q.c5; have y6 := q.c6; have y7 := q.c7; have y8 := q.c8; have y9 := q.c9; have y10 := q.c10; have y11 := q.c11; clear q; have f0 := T.r.fz 0; have f1 := T.r.fz 1; have f2 := T.r.fz 2; have f3 := T.r.fz 3; have f4 := T.r.fz 4; have f5 := T.r.fz 5; have f6 := T.r.fz 6; have f7 := T.r.fz 7; have f8 := T.r.fz 8; have f9 := T.r.fz 9; have f10 := T.r.fz 10; have f11 := T.r.fz 11; have e2 := F20.ev 2 rfl; have g2 := F20.get 2 _ rfl; have e69 := F20.ev 69 rfl; have g69 := F20.get 69 _ rfl
                    go_simp; try with_reducible rfl
                  clear F20 a20
                  refine kFin rfl ?_
                  obtain ⟨TO, TR, TG, TS, TA⟩ := T.out ⟨k, n1, n2, r1, r2, mkS y, path, prop, vk, vn, vt, on⟩ A n c
                  clear T
                  generalize outW w7J RR ⟨k, n1, n2, r1, r2, mkS y, path, prop, vk, vn, vt, on⟩ A n c = wO at *
                  refine frNext ?_
                  refine wp_ret ?_
                  refine frRetC rfl F21 rfl (v := opv ⟨k, n1, n2, r1, r2, mkS y, path, prop, vk, vn, vt, on⟩ A n c) ?yl ?_
                  case yl =>
                    have q := TO.cs; have y0 := q.c0; have y1 := q.c1; have y2 := q.c2; have y3 := q.c3; have y4 := q.c4; have y5 := q.c5; have y6 := q.c6; have y7 := q.c7; have y8 := q.c8; have y9 := q.c9; have y10 := q.c10; have y11 := q.c11; clear q
                    go_simp; try with_reducible rfl
                  have hs7 := HS7.out
                  have hRR := HRR.out
                  subst hRR
                  have hfin : tOp s = (⟨k, n1, n2, r1, r2, mkS y, path, prop, vk, vn, vt, on⟩, s7) := by
                    rw [HT.out]
                    unfold opLook
                    rcases hor : oright ⟨k, n1, n2, r1, r2, mkS y, path, prop, vk, vn, vt, on⟩ with _ | _
                    · rw [hor] at hs7
                      simp only [Bool.false_eq_true, if_false] at hs7
                      have := rFail_ne s6
                      rw [← hs7, hz] at this
                      simp at this
                    · rw [hor] at hs7
                      simp only [if_true] at hs7 ⊢
                      rw [if_pos (by rw [← hs7]; exact hz), hs7]
                  rw [hfin]
                  exact ⟨A, n, c, rfl, TS, TA, TR, TG, hx3, hx5⟩ -- OTk9
              refine wp_seq ?_
              refine kGo ?_
              refine kTake (v := opv ⟨k, n1, n2, r1, r2, mkS y, path, prop, vk, vn, vt, on⟩ A n c) F6J rfl rfl rfl rfl ?y22 (fun a22 F22 => ?h22)
              case y22 =>
                have q := T.x.cs; have y0 := q.c0; have y1 := q.c1; have y2 := q.c2; have y3 := q.c3; have y4 := q.c4; have y5 := q.c5; have y6 := q.c6; have y7 := q.c7; have y8 := q.c8; have y9 := q.c9; have y10 := q.c10; have y11 := q.c11; clear q; have e3 := F6J.ev 3 rfl; have g3 := F6J.get 3 _ rfl
                go_simp; try with_reducible rfl
              clear F6J a6J
              have HR2 := HG.out.grown T.grown (by omega)
              have hst := T.st T.len
              refine kCall F22 rfl rfl rfl rfl (ORight_any k n1 n2 r1 r2 (mkS y) path prop vk vn vt on A n c _ hst HR2 hx5 hx3) ?y23 ?h23
              case y23 =>
                have e60 := F22.ev 60 rfl; have g60 := F22.get 60 _ rfl
                go_simp; try with_reducible rfl
              rintro e wN ⟨rfl, hb'⟩
              replace T := T.below hb'
              clear hb' HR2 hst
              rcases hor : oright ⟨k, n1, n2, r1, r2, mkS y, path, prop, vk, vn, vt, on⟩ with _ | _
              · skip
                refine ⟨_, rfl, fun a23 F23 => ?_⟩
                clear F22 a22
                refine kMove F23 rfl rfl rfl rfl rfl (fun a24 F24 => ?_)
                clear F23 a23
                refine kFin rfl ?_
                refine frNext ?_
                refine frCond (b := true) F24 rfl ?_
                simp only [if_true]
                have F25 := F24.sub (l' := [(0, .pointer (some ⟨rb, 0, none⟩)), (2, .pointer (some ⟨RR, 0, none⟩)), (3, .pointer (some ⟨X, 0, none⟩))]) ⟨rfl, rfl, rfl, trivial⟩
                clear F24
                refine kGo ?_
                refine kMove F25 rfl rfl rfl rfl rfl (fun a26 F26 => ?_)
                clear F25 a24
                refine kCall F26 rfl rfl rfl rfl (Fail_r base rb s6 21 _ T.rdr) ?y27 ?h27
                case y27 =>
                  have e63 := F26.ev 63 rfl; have g63 := F26.get 63 _ rfl
                  go_simp; try with_reducible rfl
                rintro e wN ⟨rfl, hr, hg⟩
                replace T := T.rd hr hg
                clear hr hg
                refine ⟨_, rfl, fun a27 F27 => ?_⟩
                clear F26 a26
                have F28 := F27.sub (l' := [(0, .pointer (some ⟨rb, 0, none⟩)), (2, .pointer (some ⟨RR, 0, none⟩)), (3, .pointer (some ⟨X, 0, none⟩))]) ⟨rfl, rfl, rfl, trivial⟩
                clear F27
                refine kFin rfl ?_
                exact J7 _ _ _ F28 T (by rw [hor]; rfl)
              · skip
                refine ⟨_, rfl, fun a23 F23 => ?_⟩
                clear F22 a22
                refine kMove F23 rfl rfl rfl rfl rfl (fun a29 F29 => ?_)
                clear F23 a23
                refine kFin rfl ?_
                refine frNext ?_
                refine frCond (b := false) F29 rfl ?_
                simp only [Bool.false_eq_true, if_false]
                refine wp_skip ?_
                have F30 := F29.sub (l' := [(0, .pointer (some ⟨rb, 0, none⟩)), (2, .pointer (some ⟨RR, 0, none⟩)), (3, .pointer (some ⟨X, 0, none⟩))]) ⟨rfl, rfl, rfl, trivial⟩
                clear F29
                exact J7 _ _ _ F30 T (by rw [hor]; rfl)
            refine wp_seq ?_
            refine kGo ?_
            refine kMove F5J rfl rfl rfl rfl rfl (fun a31 F31 => ?_)
            clear F5J a5J
            refine kFin rfl ?_
            refine frNext ?_
            rcases b6 with _ | _
            · skip
              refine frCond (b := false) F31 rfl ?_
              simp only [Bool.false_eq_true, if_false]
              refine wp_skip ?_
              have F32 := F31.sub (l' := [(0, .pointer (some ⟨rb, 0, none⟩)), (2, .pointer (some ⟨RR, 0, none⟩)), (3, .pointer (some ⟨X, 0, none⟩)), (4, .bool b1), (5, .bool b2), (6, .bool b3), (7, .bool b4), (8, .bool b5), (9, .bool false)]) ⟨rfl, rfl, rfl, rfl, rfl, rfl, rfl, rfl, rfl, trivial⟩
              clear F31
              have e : (false, s5) = (on, s6) := EO.out
              obtain ⟨rfl, rfl⟩ : false = on ∧ s5 = s6 := by simpa using e
              exact J6 _ _ F32 _ _ _ T
            · skip
              refine frCond (b := true) F31 rfl ?_
              simp only [if_true]
              have e : (decide ((rUpto 1 s5).1 = 1), (rUpto 1 s5).2) = (on, s6) := EO.out
              have hc := Upto_any base rb s5 1 _ T.rdr
              rcases hq : rUpto 1 s5 with ⟨pp, sa⟩
              rw [hq] at hc e
              dsimp only at hc e
              clear hq
              obtain ⟨e1, rfl⟩ : decide (pp = 1) = on ∧ sa = s6 := by simpa using e
              clear e
              have he1 : (pp == 1) = on := by rw [← e1]; rfl
              clear e1
              refine kGo ?_
              refine kMove F31 rfl rfl rfl rfl rfl (fun a33 F33 => ?_)
              clear F31 a31
              refine kCall F33 rfl rfl rfl rfl (hc) ?y34 ?h34
              case y34 =>
                have e56 := F33.ev 56 rfl; have g56 := F33.get 56 _ rfl
                go_simp; try with_reducible rfl
              rintro e wN ⟨rfl, hr, hg⟩
              replace T := T.rd hr hg
              clear hr hg
              refine ⟨_, rfl, fun a34 F34 => ?_⟩
              clear F33 a33
              refine kTake (v := .bool on) F34 rfl rfl rfl rfl ?y35 (fun a35 F35 => ?h35)
              case y35 =>
                have e57 := F34.ev 57 rfl; have g57 := F34.get 57 _ rfl
                go_simp; try with_reducible rfl
              clear F34 a34
              refine kTake (v := ?v36) F35 rfl rfl rfl rfl ?y36 (fun a36 F36 => ?h36)
              case y36 =>
                have e3 := F35.ev 3 rfl; have g3 := F35.get 3 _ rfl
                go_simp; try with_reducible rfl
              clear F35 a35
              refine kStore (w' := wN.setCell ⟨X, 11, none⟩ (.bool on)) F36 rfl rfl rfl ?y37 (fun a37 F37 => ?h37)
              case y37 =>
                have q := T.x.cs; have y11 := q.c11; clear q; have f11 := T.x.fz 11; have e58 := F36.ev 58 rfl; have g58 := F36.get 58 _ rfl; have e59 := F36.ev 59 rfl; have g59 := F36.get 59 _ rfl
                go_simp; try with_reducible rfl
              clear F36 a36
              replace T := T.on on
              replace T : TkAt w _ base rb RR X sa ⟨k, n1, n2, r1, r2, mkS y, path, prop, vk, vn, vt, on⟩ A n c := T
              have F38 := F37.sub (l' := [(0, .pointer (some ⟨rb, 0, none⟩)), (2, .pointer (some ⟨RR, 0, none⟩)), (3, .pointer (some ⟨X, 0, none⟩)), (4, .bool b1), (5, .bool b2), (6, .bool b3), (7, .bool b4), (8, .bool b5), (9, .bool true)]) ⟨rfl, rfl, rfl, rfl, rfl, rfl, rfl, rfl, rfl, trivial⟩
              clear F37
              refine kFin rfl ?_
              exact J6 _ _ F38 _ _ _ T
          refine wp_seq ?_
          refine kGo ?_
          refine kMove F4J rfl rfl rfl rfl rfl (fun a39 F39 => ?_)
          clear F4J a4J
          refine kFin rfl ?_
          refine frNext ?_
          rcases b5 with _ | _
          · skip
            refine frCond (b := false) F39 rfl ?_
            simp only [Bool.false_eq_true, if_false]
            refine wp_skip ?_
            have F40 := F39.sub (l' := [(0, .pointer (some ⟨rb, 0, none⟩)), (2, .pointer (some ⟨RR, 0, none⟩)), (3, .pointer (some ⟨X, 0, none⟩)), (4, .bool b1), (5, .bool b2), (6, .bool b3), (7, .bool b4), (8, .bool false), (9, .bool b6)]) ⟨rfl, rfl, rfl, rfl, rfl, rfl, rfl, rfl, rfl, trivial⟩
            clear F39
            have e : ((0, 0, 0, ⟨#[]⟩), s4) = ((prop, vk, vn, vt), s5) := EV.out
            obtain ⟨⟨rfl, rfl, rfl, rfl⟩, rfl⟩ : ((0 : Int) = prop ∧ (0 : Int) = vk ∧ (0 : Int) = vn ∧ (⟨#[]⟩ : ByteArray) = vt) ∧ s4 = s5 := by simpa using e
            exact J5 _ _ F40 _ _ _ T (by decide)
          · skip
            refine frCond (b := true) F39 rfl ?_
            simp only [if_true]
            have e : (((rUpto 281474976710655 s4).1, (tVal (rUpto 281474976710655 s4).2).1), (tVal (rUpto 281474976710655 s4).2).2) = ((prop, vk, vn, vt), s5) := EV.out
            have hc := Num_r base rb s4 _ T.rdr
            rcases hq : rUpto 281474976710655 s4 with ⟨pp, sa⟩
            rw [hq] at hc e
            dsimp only at hc e
            clear hq
            have e1 : pp = prop := congrArg (fun z => z.1.1) e
            have e2 : tVal sa = ((vk, vn, vt), s5) := Prod.ext (congrArg (fun z => z.1.2) e) (congrArg (fun z => z.2) e)
            subst e1
            clear e
            refine kGo ?_
            refine kMove F39 rfl rfl rfl rfl rfl (fun a41 F41 => ?_)
            clear F39 a39
            refine kCall F41 rfl rfl rfl rfl (hc) ?y42 ?h42
            case y42 =>
              have e49 := F41.ev 49 rfl; have g49 := F41.get 49 _ rfl
              go_simp; try with_reducible rfl
            rintro e wN ⟨rfl, hr, hg⟩
            replace T := T.rd hr hg
            clear hr hg
            refine ⟨_, rfl, fun a42 F42 => ?_⟩
            clear F41 a41
            refine kMove F42 rfl rfl rfl rfl rfl (fun a43 F43 => ?_)
            clear F42 a42
            have hvl : vt.size ≤ 9223372036854775807 := by
              have q1 := tVal_size sa
              rw [e2] at q1
              exact Nat.le_trans q1 T.rdr.len
            have hc2 := VTake_any base rb sa _ T.rdr T.rdr.len
            rw [e2] at hc2
            dsimp only at hc2
            refine kCall F43 rfl rfl rfl rfl (hc2) ?y44 ?h44
            case y44 =>
              have e51 := F43.ev 51 rfl; have g51 := F43.get 51 _ rfl
              go_simp; try with_reducible rfl
            rintro e wN ⟨rfl, hr, hg⟩
            replace T := T.rd hr hg
            clear hr hg
            refine ⟨_, rfl, fun a44 F44 => ?_⟩
            clear F43 a43
            refine kTake (v := ?v45) F44 rfl rfl rfl rfl ?y45 (fun a45 F45 => ?h45)
            case y45 =>
              have e3 := F44.ev 3 rfl; have g3 := F44.get 3 _ rfl
              go_simp; try with_reducible rfl
            clear F44 a44
            refine kStore (w' := wN.setCell ⟨X, 7, none⟩ (.int .i64 pp)) F45 rfl rfl rfl ?y46 (fun a46 F46 => ?h46)
            case y46 =>
              have q := T.x.cs; have y7 := q.c7; clear q; have f7 := T.x.fz 7; have e50 := F45.ev 50 rfl; have g50 := F45.get 50 _ rfl; have e53 := F45.ev 53 rfl; have g53 := F45.get 53 _ rfl
              go_simp; try with_reducible rfl
            clear F45 a45
            replace T := T.prop pp
            refine kTake (v := ?v47) F46 rfl rfl rfl rfl ?y47 (fun a47 F47 => ?h47)
            case y47 =>
              have e3 := F46.ev 3 rfl; have g3 := F46.get 3 _ rfl
              go_simp; try with_reducible rfl
            clear F46 a46
            generalize wN.setCell ⟨X, 7, none⟩ (.int .i64 pp) = wP at *
            refine kStore (w' := ((wP.setCell ⟨X, 8, none⟩ (.int .i64 vk)).setCell ⟨X, 9, none⟩ (.int .i64 vn)).setCell ⟨X, 10, none⟩ (.string vt)) F47 rfl rfl rfl ?y48 (fun a48 F48 => ?h48)
            case y48 =>
              have q := T.x.cs; have y8 := q.c8; have y9 := q.c9; have y10 := q.c10; clear q; have f8 := T.x.fz 8; have f9 := T.x.fz 9; have f10 := T.x.fz 10; have e52 := F47.ev 52 rfl; have g52 := F47.get 52 _ rfl; have e54 := F47.ev 54 rfl; have g54 := F47.get 54 _ rfl
              go_simp; try with_reducible rfl
            clear F47 a47
            replace T := T.val vk vn vt
            replace T : TkAt w _ base rb RR X s5 ⟨k, n1, n2, r1, r2, mkS y, path, pp, vk, vn, vt, false⟩ A n c := T
            have F49 := F48.sub (l' := [(0, .pointer (some ⟨rb, 0, none⟩)), (2, .pointer (some ⟨RR, 0, none⟩)), (3, .pointer (some ⟨X, 0, none⟩)), (4, .bool b1), (5, .bool b2), (6, .bool b3), (7, .bool b4), (8, .bool true), (9, .bool b6)]) ⟨rfl, rfl, rfl, rfl, rfl, rfl, rfl, rfl, rfl, trivial⟩
            clear F48
            refine kFin rfl ?_
            exact J5 _ _ F49 _ _ _ T hvl
        refine wp_seq ?_
        refine kGo ?_
        refine kMove F3J rfl rfl rfl rfl rfl (fun a50 F50 => ?_)
        clear F3J a3J
        refine kFin rfl ?_
        refine frNext ?_
        rcases b4 with _ | _
        · skip
          refine frCond (b := false) F50 rfl ?_
          simp only [Bool.false_eq_true, if_false]
          refine wp_skip ?_
          have F51 := F50.sub (l' := [(0, .pointer (some ⟨rb, 0, none⟩)), (2, .pointer (some ⟨RR, 0, none⟩)), (3, .pointer (some ⟨X, 0, none⟩)), (4, .bool b1), (5, .bool b2), (6, .bool b3), (7, .bool false), (8, .bool b5), (9, .bool b6)]) ⟨rfl, rfl, rfl, rfl, rfl, rfl, rfl, rfl, rfl, trivial⟩
          clear F50
          have e : ([], s3) = (path, s4) := EP.out
          obtain ⟨rfl, rfl⟩ : [] = path ∧ s3 = s4 := by simpa using e
          exact J4 _ _ F51 _ _ _ T
        · skip
          refine frCond (b := true) F50 rfl ?_
          simp only [if_true]
          have e : rPath (rUpto 8 s3).1.toNat (rUpto 8 s3).2 = (path, s4) := EP.out
          have hrg := rUpto_range s3 8 (by omega)
          refine wp_seq ?_
          refine kGo ?_
          refine kMove F50 rfl rfl rfl rfl rfl (fun a52 F52 => ?_)
          clear F50 a50
          have hc := Upto_any base rb s3 8 _ T.rdr
          rcases hq : rUpto 8 s3 with ⟨m0, sa⟩
          rw [hq] at hc e hrg
          dsimp only at hc e hrg
          obtain ⟨m, rfl⟩ := Int.eq_ofNat_of_zero_le hrg.1
          rw [Int.toNat_natCast] at e
          clear hq
          refine kCall F52 rfl rfl rfl rfl (hc) ?y53 ?h53
          case y53 =>
            have e36 := F52.ev 36 rfl; have g36 := F52.get 36 _ rfl
            go_simp; try with_reducible rfl
          rintro e wN ⟨rfl, hr, hg⟩
          replace T := T.rd hr hg
          clear hr hg
          refine ⟨_, rfl, fun a53 F53 => ?_⟩
          clear F52 a52
          refine kMove F53 rfl rfl rfl rfl rfl (fun a54 F54 => ?_)
          clear F53 a53
          have F55 := F54.sub (l' := [(0, .pointer (some ⟨rb, 0, none⟩)), (2, .pointer (some ⟨RR, 0, none⟩)), (3, .pointer (some ⟨X, 0, none⟩)), (4, .bool b1), (5, .bool b2), (6, .bool b3), (7, .bool true), (8, .bool b5), (9, .bool b6), (37, .int .i64 (m : Int)), (38, .int .i64 0)]) ⟨rfl, rfl, rfl, rfl, rfl, rfl, rfl, rfl, rfl, rfl, rfl, trivial⟩
          clear F54
          refine kFin rfl ?_
          refine frNext ?_
          refine frBlock ?_
          refine wp_loop (fun aL wL => ∃ (i : Nat) (A : Option Addr) (c : Nat), i ≤ m ∧ Fr aL 70 [(0, .pointer (some ⟨rb, 0, none⟩)), (2, .pointer (some ⟨RR, 0, none⟩)), (3, .pointer (some ⟨X, 0, none⟩)), (4, .bool b1), (5, .bool b2), (6, .bool b3), (7, .bool true), (8, .bool b5), (9, .bool b6), (37, .int .i64 (m : Int)), (38, .int .i64 (i : Int))] ∧ TkAt w wL base rb RR X (rPath i sa).2 ⟨k, n1, n2, r1, r2, mkS y, (rPath i sa).1, 0, 0, 0, ⟨#[]⟩, false⟩ A i c) (fun aL _ => m - (intOf (aL.tmps.getD 38 undef)).toNat) ?st ?rd
          case st => exact ⟨0, none, 0, by omega, F55, T⟩
          case rd =>
            clear T F55 a54
            rintro aL wL ⟨i, A, c, hi, FL, T⟩
            rw [show intOf (aL.tmps.getD 38 undef) = (i : Int) by rw [FL.ev 38 rfl]; rfl]
            have hm8 : m ≤ 8 := by omega
            refine wp_seq ?_
            refine kGo ?_
            by_cases hlt : i < m
            · skip
              refine kTake (v := .bool true) FL rfl rfl rfl rfl ?y56 (fun a56 F56 => ?h56)
              case y56 =>
                have e37 := FL.ev 37 rfl; have g37 := FL.get 37 _ rfl; have e38 := FL.ev 38 rfl; have g38 := FL.get 38 _ rfl
                first | (go_simp; done) | (go_simp; omega)
              clear FL aL
              refine kFin rfl ?_
              refine frNext ?_
              refine wp_seq ?_
              refine frCond (b := true) F56 rfl ?_
              simp only [if_true]
              refine wp_skip ?_
              refine frNext ?_
              refine wp_seq ?_
              refine frBlock ?_
              refine gGo (n := 8) rfl (by kernel_rfl) ?_
              replace T := T.drew
              have hQ : True := trivial
              rcases hst : tStamp (rPath i sa).2 with ⟨⟨x, yy⟩, sb⟩
              have HST := hid hst
              clear hst
              refine gFree 0 (v := ?v57) F56 rfl rfl rfl rfl (by kernel_rfl) (by kernel_rfl) (by kernel_rfl) (fun _ d _ _ _ h => by cases d <;> exact h) ?y57 (fun a57 F57 => ?h57)
              case y57 =>
                intro wS; have e3 := F56.ev 3 rfl; have g3 := F56.get 3 _ rfl
                go_simp; try with_reducible rfl
              clear F56 a56
              refine gFree 2 (v := ?v58) F57 rfl rfl rfl rfl (by kernel_rfl) (by kernel_rfl) (by kernel_rfl) (fun _ d _ _ _ h => by cases d <;> exact h) ?y58 (fun a58 F58 => ?h58)
              case y58 =>
                intro wS; have e0 := F57.ev 0 rfl; have g0 := F57.get 0 _ rfl
                go_simp; try with_reducible rfl
              clear F57 a57
              refine gJoin (fun a' w' => ∃ (T0 : Nat), Fr a' 70 [(0, .pointer (some ⟨rb, 0, none⟩)), (2, .pointer (some ⟨RR, 0, none⟩)), (3, .pointer (some ⟨X, 0, none⟩)), (4, .bool b1), (5, .bool b2), (6, .bool b3), (7, .bool true), (8, .bool b5), (9, .bool b6), (37, .int .i64 (m : Int)), (38, .int .i64 (i : Int)), (41, .slice A i c), (43, stv x yy), (44, .slice (some ⟨T0, 0, none⟩) 1 1), (40, .pointer (some ⟨X, 6, none⟩))] ∧ TkAt w w' base rb RR X sb ⟨k, n1, n2, r1, r2, mkS y, (rPath i sa).1, 0, 0, 0, ⟨#[]⟩, false⟩ A i c ∧ (∀ j u, (sv [(x, yy)])[j]? = some u → w'.cell? ((⟨T0, 0, none⟩ : Addr).add j) = some u)) #[true, true, true, true, true, false, false, false] 3 ?j5 (fun J5 => ?m5)
              case m5 =>
                have hT0 : ∀ (wz : World) (x yy : Int) (j : Nat) (u : Value), (sv [(x, yy)])[j]? = some u → (wz.alloc (so x yy)).cell? ((⟨wz.heap.size, 0, none⟩ : Addr).add j) = some u := fun wz x yy j u hj => by
                  have S1 := SAt.new wz x yy _ rfl
                  rw [Addr.add_lit]
                  match j, hj with
                  | 0, hj => simp [sv] at hj; subst hj; exact S1.c0
                  | 1, hj => simp [sv] at hj; subst hj; exact S1.c1
                refine gDuo 1 3 F58 rfl rfl (by kernel_rfl) rfl rfl ?a1 ?a3
                case a1 =>
                  refine o1Take (v := ?v59) F58 rfl rfl ?y59 (fun a59 F59 => ?h59)
                  case y59 =>
                    have q := T.x.cs; have y6 := q.c6; clear q; have e40 := F58.ev 40 rfl; have g40 := F58.get 40 _ rfl
                    go_simp; try with_reducible rfl
                  clear F58 a58
                  refine gSolo 3 F59 rfl (by kernel_rfl) rfl ?_
                  have hc := STake_any base rb (rPath i sa).2 _ T.rdr
                  rw [HST.out] at hc
                  dsimp only at hc
                  refine o1Call F59 rfl rfl hc ?y60 ?h60
                  case y60 =>
                    have e42 := F59.ev 42 rfl; have g42 := F59.get 42 _ rfl
                    go_simp; try with_reducible rfl
                  rintro e wN ⟨rfl, hr, hg⟩
                  replace T := T.rd hr hg
                  clear hr hg
                  refine ⟨_, rfl, fun a60 F60 => ?_⟩
                  clear F59 a59
                  refine gSolo 4 F60 rfl (by kernel_rfl) rfl ?_
                  refine o1Val (v := ?v61) (w' := wN.alloc (so x yy)) F60 rfl rfl ?y61 (fun a61 F61 => ?h61)
                  case y61 =>
                    have e43 := F60.ev 43 rfl; have g43 := F60.get 43 _ rfl
                    go_simp; try with_reducible rfl
                  clear F60 a60
                  have F62 := F61.sub (l' := [(0, .pointer (some ⟨rb, 0, none⟩)), (2, .pointer (some ⟨RR, 0, none⟩)), (3, .pointer (some ⟨X, 0, none⟩)), (4, .bool b1), (5, .bool b2), (6, .bool b3), (7, .bool true), (8, .bool b5), (9, .bool b6), (37, .int .i64 (m : Int)), (38, .int .i64 (i : Int)), (41, .slice A i c), (43, stv x yy), (44, .slice (some ⟨wN.heap.size, 0, none⟩) 1 1), (40, .pointer (some ⟨X, 6, none⟩))]) ⟨rfl, rfl, rfl, rfl, rfl, rfl, rfl, rfl, rfl, rfl, rfl, rfl, rfl, rfl, rfl, trivial⟩
                  clear F61
                  refine gCast (l2 := #[true, true, true, true, true, false, false, false]) (by kernel_rfl) ?_
                  exact J5 _ _ ⟨_, F62, T.below (below_alloc1 _ _), hT0 _ _ _⟩
                case a3 =>
                  have hc := STake_any base rb (rPath i sa).2 _ T.rdr
                  rw [HST.out] at hc
                  dsimp only at hc
                  refine o1Call F58 rfl rfl hc ?y63 ?h63
                  case y63 =>
                    have e42 := F58.ev 42 rfl; have g42 := F58.get 42 _ rfl
                    go_simp; try with_reducible rfl
                  rintro e wN ⟨rfl, hr, hg⟩
                  replace T := T.rd hr hg
                  clear hr hg
                  refine ⟨_, rfl, fun a63 F63 => ?_⟩
                  clear F58 a58
                  refine gDuo 1 4 F63 rfl rfl (by kernel_rfl) rfl rfl ?b1 ?b4
                  case b1 =>
                    refine o1Take (v := ?v64) F63 rfl rfl ?y64 (fun a64 F64 => ?h64)
                    case y64 =>
                      have q := T.x.cs; have y6 := q.c6; clear q; have e40 := F63.ev 40 rfl; have g40 := F63.get 40 _ rfl
                      go_simp; try with_reducible rfl
                    clear F63 a63
                    refine gSolo 4 F64 rfl (by kernel_rfl) rfl ?_
                    refine o1Val (v := ?v65) (w' := wN.alloc (so x yy)) F64 rfl rfl ?y65 (fun a65 F65 => ?h65)
                    case y65 =>
                      have e43 := F64.ev 43 rfl; have g43 := F64.get 43 _ rfl
                      go_simp; try with_reducible rfl
                    clear F64 a64
                    have F66 := F65.sub (l' := [(0, .pointer (some ⟨rb, 0, none⟩)), (2, .pointer (some ⟨RR, 0, none⟩)), (3, .pointer (some ⟨X, 0, none⟩)), (4, .bool b1), (5, .bool b2), (6, .bool b3), (7, .bool true), (8, .bool b5), (9, .bool b6), (37, .int .i64 (m : Int)), (38, .int .i64 (i : Int)), (41, .slice A i c), (43, stv x yy), (44, .slice (some ⟨wN.heap.size, 0, none⟩) 1 1), (40, .pointer (some ⟨X, 6, none⟩))]) ⟨rfl, rfl, rfl, rfl, rfl, rfl, rfl, rfl, rfl, rfl, rfl, rfl, rfl, rfl, rfl, trivial⟩
                    clear F65
                    refine gCast (l2 := #[true, true, true, true, true, false, false, false]) (by kernel_rfl) ?_
                    exact J5 _ _ ⟨_, F66, T.below (below_alloc1 _ _), hT0 _ _ _⟩
                  case b4 =>
                    refine o1Val (v := ?v67) (w' := wN.alloc (so x yy)) F63 rfl rfl ?y67 (fun a67 F67 => ?h67)
                    case y67 =>
                      have e43 := F63.ev 43 rfl; have g43 := F63.get 43 _ rfl
                      go_simp; try with_reducible rfl
                    clear F63 a63
                    have T9 := T.below (below_alloc1 wN (so x yy))
                    refine gSolo 1 F67 rfl (by kernel_rfl) rfl ?_
                    refine o1Take (v := ?v68) F67 rfl rfl ?y68 (fun a68 F68 => ?h68)
                    case y68 =>
                      have q := T9.x.cs; have y6 := q.c6; clear q; have e40 := F67.ev 40 rfl; have g40 := F67.get 40 _ rfl
                      go_simp; try with_reducible rfl
                    clear F67 a67
                    clear T9
                    have F69 := F68.sub (l' := [(0, .pointer (some ⟨rb, 0, none⟩)), (2, .pointer (some ⟨RR, 0, none⟩)), (3, .pointer (some ⟨X, 0, none⟩)), (4, .bool b1), (5, .bool b2), (6, .bool b3), (7, .bool true), (8, .bool b5), (9, .bool b6), (37, .int .i64 (m : Int)), (38, .int .i64 (i : Int)), (41, .slice A i c), (43, stv x yy), (44, .slice (some ⟨wN.heap.size, 0, none⟩) 1 1), (40, .pointer (some ⟨X, 6, none⟩))]) ⟨rfl, rfl, rfl, rfl, rfl, rfl, rfl, rfl, rfl, rfl, rfl, rfl, rfl, rfl, rfl, trivial⟩
                    clear F68
                    refine gCast (l2 := #[true, true, true, true, true, false, false, false]) (by kernel_rfl) ?_
                    exact J5 _ _ ⟨_, F69, T.below (below_alloc1 _ _), hT0 _ _ _⟩
              case j5 =>
                clear T F58 a58
                rintro a5 w5 ⟨T0, F5, T, hcell⟩
                refine gSolo 5 F5 rfl (by kernel_rfl) rfl ?_
                refine o1App (p := noB) w.heap.size F5 rfl rfl rfl Tryd.underlying24 info_st rfl (by omega) (by omega) (n := i) (m := 1) rfl rfl (by rw [HRR.out]; have := T.row; rw [HRR.out] at this; exact this) hcell rfl (sv_one _) (by have := T.size; omega) (by omega) T.nob (by intro u hu n e; simp [Value.cells] at hu; rcases hu with rfl | rfl <;> cases e) (noB_sv _) (noB_sv _) ?_
                intro v6 w6 hrow hnob hg hat a70 F70
                clear F5 a5
                obtain ⟨A6, c6, rfl, -, -, -, -⟩ := owns_form hrow
                obtain ⟨hX, T6⟩ := T.more x yy hg hrow hnob hat
                clear T hg hrow hnob hat hcell
                replace T := T6
                clear T6
                refine gSolo 6 F70 rfl (by kernel_rfl) rfl ?_
                refine o1Take (v := ?v71) F70 rfl rfl ?y71 (fun a71 F71 => ?h71)
                case y71 =>
                  have e3 := F70.ev 3 rfl; have g3 := F70.get 3 _ rfl
                  go_simp; try with_reducible rfl
                clear F70 a70
                refine gSolo 7 F71 rfl (by kernel_rfl) rfl ?_
                refine o1Store (w' := w6.setCell ⟨X, 6, none⟩ (.slice A6 (i + 1) c6)) F71 rfl ?y72 (fun a72 F72 => ?_)
                case y72 =>
                  have q := hX.cs; have y6 := q.c6; clear q; have f6 := hX.fz 6; have e45 := F71.ev 45 rfl; have g45 := F71.get 45 _ rfl; have e46 := F71.ev 46 rfl; have g46 := F71.get 46 _ rfl
                  go_simp; try with_reducible rfl
                clear F71 a71 hX
                refine gFin (by kernel_rfl) ?_
                have esn : rPath (i + 1) sa = ((rPath i sa).1 ++ [(x, yy)], sb) := by rw [rPath_snoc, HST.out]
                replace T : TkAt w (w6.setCell ⟨X, 6, none⟩ (.slice A6 (i + 1) c6)) base rb RR X (rPath (i + 1) sa).2 ⟨k, n1, n2, r1, r2, mkS y, (rPath (i + 1) sa).1, 0, 0, 0, ⟨#[]⟩, false⟩ A6 (i + 1) c6 := by rw [esn]; exact T
                refine frBlkN ?_
                refine frNext ?_
                have F73 := F72.sub (l' := [(0, .pointer (some ⟨rb, 0, none⟩)), (2, .pointer (some ⟨RR, 0, none⟩)), (3, .pointer (some ⟨X, 0, none⟩)), (4, .bool b1), (5, .bool b2), (6, .bool b3), (7, .bool true), (8, .bool b5), (9, .bool b6), (37, .int .i64 (m : Int)), (38, .int .i64 (i : Int))]) ⟨rfl, rfl, rfl, rfl, rfl, rfl, rfl, rfl, rfl, rfl, rfl, trivial⟩
                clear F72
                refine kGo ?_
                refine kTake (v := .int .i64 ((i + 1 : Nat) : Int)) F73 rfl rfl rfl rfl ?y74 (fun a74 F74 => ?h74)
                case y74 =>
                  have e38 := F73.ev 38 rfl; have g38 := F73.get 38 _ rfl
                  first | (go_simp; done) | (go_simp; simp only [IntKind.wrap_i64]; omega)
                clear F73 a72
                refine kMove F74 rfl rfl rfl rfl rfl (fun a75 F75 => ?_)
                clear F74 a74
                have F76 := F75.sub (l' := [(0, .pointer (some ⟨rb, 0, none⟩)), (2, .pointer (some ⟨RR, 0, none⟩)), (3, .pointer (some ⟨X, 0, none⟩)), (4, .bool b1), (5, .bool b2), (6, .bool b3), (7, .bool true), (8, .bool b5), (9, .bool b6), (37, .int .i64 (m : Int)), (38, .int .i64 ((i + 1 : Nat) : Int))]) ⟨rfl, rfl, rfl, rfl, rfl, rfl, rfl, rfl, rfl, rfl, rfl, trivial⟩
                clear F75
                refine kFin rfl ?_
                refine frThenN ⟨⟨i + 1, _, _, by omega, F76, T⟩, ?_⟩
                rw [show intOf (a75.tmps.getD 38 undef) = ((i + 1 : Nat) : Int) by rw [F76.ev 38 rfl]; rfl]
                omega
            · skip
              refine kTake (v := .bool false) FL rfl rfl rfl rfl ?y77 (fun a77 F77 => ?h77)
              case y77 =>
                have e37 := FL.ev 37 rfl; have g37 := FL.get 37 _ rfl; have e38 := FL.ev 38 rfl; have g38 := FL.get 38 _ rfl
                first | (go_simp; done) | (go_simp; omega)
              clear FL aL
              refine kFin rfl ?_
              refine frNext ?_
              refine wp_seq ?_
              refine frCond (b := false) F77 rfl ?_
              simp only [Bool.false_eq_true, if_false]
              refine wp_exit ?_
              refine frThenE ?_
              refine frThenE ?_
              refine frBlkE ?_
              have F78 := F77.sub (l' := [(0, .pointer (some ⟨rb, 0, none⟩)), (2, .pointer (some ⟨RR, 0, none⟩)), (3, .pointer (some ⟨X, 0, none⟩)), (4, .bool b1), (5, .bool b2), (6, .bool b3), (7, .bool true), (8, .bool b5), (9, .bool b6)]) ⟨rfl, rfl, rfl, rfl, rfl, rfl, rfl, rfl, rfl, trivial⟩
              clear F77
              have hin : i = m := by omega
              subst hin
              rw [e] at T
              exact J4 _ _ F78 _ _ _ T
      refine wp_seq ?_
      refine kGo ?_
      refine kMove F2J rfl rfl rfl rfl rfl (fun a79 F79 => ?_)
      clear F2J a2J
      refine kFin rfl ?_
      refine frNext ?_
      rcases b3 with _ | _
      · skip
        refine frCond (b := false) F79 rfl ?_
        simp only [Bool.false_eq_true, if_false]
        refine wp_skip ?_
        have F80 := F79.sub (l' := [(0, .pointer (some ⟨rb, 0, none⟩)), (2, .pointer (some ⟨RR, 0, none⟩)), (3, .pointer (some ⟨X, 0, none⟩)), (4, .bool b1), (5, .bool b2), (6, .bool false), (7, .bool b4), (8, .bool b5), (9, .bool b6)]) ⟨rfl, rfl, rfl, rfl, rfl, rfl, rfl, rfl, rfl, trivial⟩
        clear F79
        have e : ([], s2) = (y, s3) := EY.out
        obtain ⟨rfl, rfl⟩ : [] = y ∧ s2 = s3 := by simpa using e
        exact J3 _ _ F80 T (by simp [mkS_size])
      · skip
        refine frCond (b := true) F79 rfl ?_
        simp only [if_true]
        refine kGo ?_
        refine kMove F79 rfl rfl rfl rfl rfl (fun a81 F81 => ?_)
        clear F79 a79
        have e : rText s2 = (y, s3) := EY.out
        have hyl : (mkS y).size ≤ 9223372036854775807 := by
          have q1 := rText_res s2
          rw [e] at q1
          rw [mkS_size]
          exact Nat.le_trans q1 T.rdr.len
        have hc := Text_r base rb s2 _ T.rdr
        rw [e] at hc
        dsimp only at hc
        refine kCall F81 rfl rfl rfl rfl (hc) ?y82 ?h82
        case y82 =>
          have e32 := F81.ev 32 rfl; have g32 := F81.get 32 _ rfl
          go_simp; try with_reducible rfl
        rintro e wN ⟨rfl, hr, hg⟩
        replace T := T.rd hr hg
        clear hr hg
        refine ⟨_, rfl, fun a82 F82 => ?_⟩
        clear F81 a81
        refine kTake (v := ?v83) F82 rfl rfl rfl rfl ?y83 (fun a83 F83 => ?h83)
        case y83 =>
          have e3 := F82.ev 3 rfl; have g3 := F82.get 3 _ rfl
          go_simp; try with_reducible rfl
        clear F82 a82
        refine kStore (w' := wN.setCell ⟨X, 5, none⟩ (.string (mkS y))) F83 rfl rfl rfl ?y84 (fun a84 F84 => ?h84)
        case y84 =>
          have q := T.x.cs; have y5 := q.c5; clear q; have f5 := T.x.fz 5; have e33 := F83.ev 33 rfl; have g33 := F83.get 33 _ rfl; have e34 := F83.ev 34 rfl; have g34 := F83.get 34 _ rfl
          go_simp; try with_reducible rfl
        clear F83 a83
        replace T := T.key (mkS y)
        replace T : TkAt w _ base rb RR X s3 ⟨k, n1, n2, r1, r2, mkS y, [], 0, 0, 0, ⟨#[]⟩, false⟩ none 0 0 := T
        have F85 := F84.sub (l' := [(0, .pointer (some ⟨rb, 0, none⟩)), (2, .pointer (some ⟨RR, 0, none⟩)), (3, .pointer (some ⟨X, 0, none⟩)), (4, .bool b1), (5, .bool b2), (6, .bool true), (7, .bool b4), (8, .bool b5), (9, .bool b6)]) ⟨rfl, rfl, rfl, rfl, rfl, rfl, rfl, rfl, rfl, trivial⟩
        clear F84
        refine kFin rfl ?_
        exact J3 _ _ F85 T hyl
    refine wp_seq ?_
    refine kGo ?_
    refine kMove F1J rfl rfl rfl rfl rfl (fun a86 F86 => ?_)
    clear F1J a1J
    refine kFin rfl ?_
    refine frNext ?_
    rcases b2 with _ | _
    · skip
      refine frCond (b := false) F86 rfl ?_
      simp only [Bool.false_eq_true, if_false]
      refine wp_skip ?_
      have F87 := F86.sub (l' := [(0, .pointer (some ⟨rb, 0, none⟩)), (2, .pointer (some ⟨RR, 0, none⟩)), (3, .pointer (some ⟨X, 0, none⟩)), (4, .bool b1), (5, .bool false), (6, .bool b3), (7, .bool b4), (8, .bool b5), (9, .bool b6)]) ⟨rfl, rfl, rfl, rfl, rfl, rfl, rfl, rfl, rfl, trivial⟩
      clear F86
      have e : ((0, 0), s1) = ((r1, r2), s2) := ER.out
      obtain ⟨⟨rfl, rfl⟩, rfl⟩ : ((0 : Int) = r1 ∧ (0 : Int) = r2) ∧ s1 = s2 := by simpa using e
      exact J2 _ _ F87 T
    · skip
      refine frCond (b := true) F86 rfl ?_
      simp only [if_true]
      refine kGo ?_
      refine kMove F86 rfl rfl rfl rfl rfl (fun a88 F88 => ?_)
      clear F86 a86
      have e : tStamp s1 = ((r1, r2), s2) := ER.out
      have hc := STake_any base rb s1 _ T.rdr
      rw [e] at hc
      dsimp only at hc
      refine kCall F88 rfl rfl rfl rfl (hc) ?y89 ?h89
      case y89 =>
        have e28 := F88.ev 28 rfl; have g28 := F88.get 28 _ rfl
        go_simp; try with_reducible rfl
      rintro e wN ⟨rfl, hr, hg⟩
      replace T := T.rd hr hg
      clear hr hg
      refine ⟨_, rfl, fun a89 F89 => ?_⟩
      clear F88 a88
      refine kTake (v := ?v90) F89 rfl rfl rfl rfl ?y90 (fun a90 F90 => ?h90)
      case y90 =>
        have e3 := F89.ev 3 rfl; have g3 := F89.get 3 _ rfl
        go_simp; try with_reducible rfl
      clear F89 a89
      refine kStore (w' := (wN.setCell ⟨X, 3, none⟩ (.int .i64 r1)).setCell ⟨X, 4, none⟩ (.int .i64 r2)) F90 rfl rfl rfl ?y91 (fun a91 F91 => ?h91)
      case y91 =>
        have q := T.x.cs; have y3 := q.c3; have y4 := q.c4; clear q; have f3 := T.x.fz 3; have f4 := T.x.fz 4; have e29 := F90.ev 29 rfl; have g29 := F90.get 29 _ rfl; have e30 := F90.ev 30 rfl; have g30 := F90.get 30 _ rfl
        go_simp; try with_reducible rfl
      clear F90 a90
      replace T := T.ref r1 r2
      replace T : TkAt w _ base rb RR X s2 ⟨k, n1, n2, r1, r2, ⟨#[]⟩, [], 0, 0, 0, ⟨#[]⟩, false⟩ none 0 0 := T
      have F92 := F91.sub (l' := [(0, .pointer (some ⟨rb, 0, none⟩)), (2, .pointer (some ⟨RR, 0, none⟩)), (3, .pointer (some ⟨X, 0, none⟩)), (4, .bool b1), (5, .bool true), (6, .bool b3), (7, .bool b4), (8, .bool b5), (9, .bool b6)]) ⟨rfl, rfl, rfl, rfl, rfl, rfl, rfl, rfl, rfl, trivial⟩
      clear F91
      refine kFin rfl ?_
      exact J2 _ _ F92 T
  refine wp_seq ?_
  refine kGo ?_
  refine kMove F13 rfl rfl rfl rfl rfl (fun a93 F93 => ?_)
  clear F13 a12
  refine kFin rfl ?_
  refine frNext ?_
  rcases b1 with _ | _
  · skip
    refine frCond (b := false) F93 rfl ?_
    simp only [Bool.false_eq_true, if_false]
    refine wp_skip ?_
    have F94 := F93.sub (l' := [(0, .pointer (some ⟨rb, 0, none⟩)), (2, .pointer (some ⟨RR, 0, none⟩)), (3, .pointer (some ⟨X, 0, none⟩)), (4, .bool false), (5, .bool b2), (6, .bool b3), (7, .bool b4), (8, .bool b5), (9, .bool b6)]) ⟨rfl, rfl, rfl, rfl, rfl, rfl, rfl, rfl, rfl, trivial⟩
    clear F93
    have e : ((0, 0), s0) = ((n1, n2), s1) := EN.out
    obtain ⟨⟨rfl, rfl⟩, rfl⟩ : ((0 : Int) = n1 ∧ (0 : Int) = n2) ∧ s0 = s1 := by simpa using e
    exact J1 _ _ F94 T
  · skip
    refine frCond (b := true) F93 rfl ?_
    simp only [if_true]
    refine kGo ?_
    refine kMove F93 rfl rfl rfl rfl rfl (fun a95 F95 => ?_)
    clear F93 a93
    have e : tStamp s0 = ((n1, n2), s1) := EN.out
    have hc := STake_any base rb s0 _ T.rdr
    rw [e] at hc
    dsimp only at hc
    refine kCall F95 rfl rfl rfl rfl (hc) ?y96 ?h96
    case y96 =>
      have e24 := F95.ev 24 rfl; have g24 := F95.get 24 _ rfl
      go_simp; try with_reducible rfl
    rintro e wN ⟨rfl, hr, hg⟩
    replace T := T.rd hr hg
    clear hr hg
    refine ⟨_, rfl, fun a96 F96 => ?_⟩
    clear F95 a95
    refine kTake (v := ?v97) F96 rfl rfl rfl rfl ?y97 (fun a97 F97 => ?h97)
    case y97 =>
      have e3 := F96.ev 3 rfl; have g3 := F96.get 3 _ rfl
      go_simp; try with_reducible rfl
    clear F96 a96
    refine kStore (w' := (wN.setCell ⟨X, 1, none⟩ (.int .i64 n1)).setCell ⟨X, 2, none⟩ (.int .i64 n2)) F97 rfl rfl rfl ?y98 (fun a98 F98 => ?h98)
    case y98 =>
      have q := T.x.cs; have y1 := q.c1; have y2 := q.c2; clear q; have f1 := T.x.fz 1; have f2 := T.x.fz 2; have e25 := F97.ev 25 rfl; have g25 := F97.get 25 _ rfl; have e26 := F97.ev 26 rfl; have g26 := F97.get 26 _ rfl
      go_simp; try with_reducible rfl
    clear F97 a97
    replace T := T.node n1 n2
    replace T : TkAt w _ base rb RR X s1 ⟨k, n1, n2, 0, 0, ⟨#[]⟩, [], 0, 0, 0, ⟨#[]⟩, false⟩ none 0 0 := T
    have F99 := F98.sub (l' := [(0, .pointer (some ⟨rb, 0, none⟩)), (2, .pointer (some ⟨RR, 0, none⟩)), (3, .pointer (some ⟨X, 0, none⟩)), (4, .bool true), (5, .bool b2), (6, .bool b3), (7, .bool b4), (8, .bool b5), (9, .bool b6)]) ⟨rfl, rfl, rfl, rfl, rfl, rfl, rfl, rfl, rfl, trivial⟩
    clear F98
    refine kFin rfl ?_
    exact J1 _ _ F99 T
end Go.Proofs.YtnakanophilfhaaDoor
