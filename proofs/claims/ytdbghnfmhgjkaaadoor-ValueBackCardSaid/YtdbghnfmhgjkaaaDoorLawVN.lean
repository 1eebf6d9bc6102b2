/- ValueBack: a value that may not be. -/
import Derived.Test.YtdbghnfmhgjkaaaDoorVcE
import Derived.Test.YtdbghnfmhgjkaaaDoorVcF
import Derived.Test.YtdbghnfmhgjkaaaDoorShV
namespace Go.Proofs.YtdbghnfmhgjkaaaDoor
open Go.RowKit Go.Dio
set_option linter.unusedVariables false
set_option linter.unusedSimpArgs false
set_option maxRecDepth 100000 in
set_option maxHeartbeats 4000000 in
theorem ValueBack_no (k n : Int) (t : ByteArray) (s : ByteArray) (w : World) (ht : t.size ≤ 9223372036854775807) (hs : s.size ≤ 281474976710656) (hp : PowTab w) (he : ErrsAt w) (hr : vright k n t = false) :
    Calls Tryd.prog 14 #[vv k n t, .string s] w fun e w' => e = .returned (.bool true) ∧ Below w.heap.size w w' := by
  have V0 := hid (VAt.new w k n t _ rfl)
  have H0 := hid (below_alloc1 w (vo k n t))
  have HPW := hid hp; have HEW := hid he; have HR := hid hr
  clear hp he hr
  rcases hps : pParse s.toList with ⟨⟨x1, x2, x3⟩, bb⟩
  have HPS := hid hps
  have hx3 : x3.size ≤ 9223372036854775807 := by
    rcases bb with _ | _
    · unfold pParse at hps
      split at hps
      · simp only [Prod.mk.injEq] at hps
        obtain ⟨⟨_, _, rfl⟩, _⟩ := hps
        decide
      · simp at hps
    · obtain ⟨h1, _⟩ := pParse_true hps
      rcases vright_cases h1 with ⟨_, _, rfl⟩ | ⟨_, _, rfl⟩ | ⟨_, _, hg⟩ | ⟨_, _, rfl⟩
      · decide
      · decide
      · have := goodB_len hg; omega
      · decide
  clear hps
  go_enter Tryd.func14, Tryd.ntmps14
  go_wp2_with fail
  refine (VPut_no k n t _ ht HR.out).mono ?_
  rintro e w1 ⟨rfl, hb⟩
  have H1 := hid (below_then H0.out hb)
  have V1 := hid (V0.out.below hb)
  clear hb
  have a0 := V1.out.c0; have a1 := V1.out.c1; have a2 := V1.out.c2
  go_wp2_with fail
  refine (VPrint_any k n t _ ht (HPW.out.below H1.out)).mono ?_
  rintro e w2 ⟨rfl, hb⟩
  have H2 := hid (below_then H1.out hb)
  have V2 := hid (V1.out.below hb)
  clear hb a0 a1 a2
  go_wp2_with fail
  refine (VParse_any (mkS (prV k n t)) _ (by have := prV_len (k := k) (n := n) (s := t); omega) (HPW.out.below H2.out) (HEW.out.below H2.out)).mono ?_
  rw [(show prV k n t = [] by rw [prV, if_neg (by simp [HR.out])]), pParse_empty]
  rintro e w3 ⟨rfl, hb⟩
  have H3 := hid (below_new (below_then H2.out hb) (vo 0 0 ⟨#[]⟩))
  have V3 := hid ((V2.out.below hb).below (below_alloc1 _ (vo 0 0 ⟨#[]⟩)))
  have X3 := hid (VAt.new w3 0 0 ⟨#[]⟩ _ rfl)
  clear hb
  dsimp only
  go_wp2_with fail
  refine (VParse_any s _ hs (HPW.out.below H3.out) (HEW.out.below H3.out)).mono ?_
  rw [HPS.out]
  rintro e w4 ⟨rfl, hb⟩
  have H4 := hid (below_new (below_then H3.out hb) (vo x1 x2 x3))
  have V4 := hid ((V3.out.below hb).below (below_alloc1 _ (vo x1 x2 x3)))
  have X4 := hid ((X3.out.below hb).below (below_alloc1 _ (vo x1 x2 x3)))
  have Y4 := hid (VAt.new w4 x1 x2 x3 _ rfl)
  clear hb
  dsimp only
  have y0 := Y4.out.c0; have y1 := Y4.out.c1; have y2 := Y4.out.c2
  rcases bb with _ | _
  · have H6 := hid H4.out; have V6 := hid V4.out; have X6 := hid X4.out
    go_wp2_with fail
    refine (num3_any 1 _).mono ?_
    rintro e wN ⟨rfl, rfl⟩
    have a0 := V6.out.c0; have a1 := V6.out.c1; have a2 := V6.out.c2
    go_wp2_with fail
    refine (VRight_any k n t _ ht).mono ?_
    rw [HR.out]
    rintro e w7 ⟨rfl, hb⟩
    have H7 := hid (below_then H6.out hb)
    have V7 := hid (V6.out.below hb)
    clear hb a0 a1 a2
    have a0 := V7.out.c0; have a1 := V7.out.c1; have a2 := V7.out.c2
    go_wp2_with fail
    refine (VPrint_any k n t _ ht (HPW.out.below H7.out)).mono ?_
    rw [show prV k n t = [] by rw [prV, if_neg (by simp [HR.out])]]
    rintro e w8 ⟨rfl, hb⟩
    have H8 := hid (below_then H7.out hb)
    clear hb
    have hem : (mkS []).toList.isEmpty = true := by rw [toList_eq, mkS_toList]; rfl
    generalize mkS [] = ee at *
    go_wp2_with fail
    refine (knows3_any _).mono ?_
    rintro e w9 ⟨rfl, hb⟩
    have H9 := hid (below_then H8.out hb)
    clear hb
    go_wp2_with fail
    go_ret
    exact ⟨rfl, H9.out⟩
  · obtain ⟨hxr, hxp⟩ := pParse_true HPS.out
    have HXR := hid hxr
    have hmk := mkS_is hxp
    have HMK := hid hmk
    clear hxr hxp hmk
    go_wp2_with fail
    refine (VRight_any x1 x2 x3 _ hx3).mono ?_
    rw [HXR.out]
    rintro e w5 ⟨rfl, hb⟩
    have H5 := hid (below_then H4.out hb)
    have V5 := hid (V4.out.below hb)
    have X5 := hid (X4.out.below hb)
    have Y5 := hid (Y4.out.below hb)
    clear hb y0 y1 y2
    have y0 := Y5.out.c0; have y1 := Y5.out.c1; have y2 := Y5.out.c2
    go_wp2_with fail
    refine (VPrint_any x1 x2 x3 _ hx3 (HPW.out.below H5.out)).mono ?_
    rw [HMK.out]
    rintro e w6 ⟨rfl, hb⟩
    have H6 := hid (below_then H5.out hb)
    have V6 := hid (V5.out.below hb)
    have X6 := hid (X5.out.below hb)
    clear hb y0 y1 y2
    go_wp2_with fail
    refine (num3_any 1 _).mono ?_
    rintro e wN ⟨rfl, rfl⟩
    have a0 := V6.out.c0; have a1 := V6.out.c1; have a2 := V6.out.c2
    go_wp2_with fail
    refine (VRight_any k n t _ ht).mono ?_
    rw [HR.out]
    rintro e w7 ⟨rfl, hb⟩
    have H7 := hid (below_then H6.out hb)
    have V7 := hid (V6.out.below hb)
    clear hb a0 a1 a2
    have a0 := V7.out.c0; have a1 := V7.out.c1; have a2 := V7.out.c2
    go_wp2_with fail
    refine (VPrint_any k n t _ ht (HPW.out.below H7.out)).mono ?_
    rw [show prV k n t = [] by rw [prV, if_neg (by simp [HR.out])]]
    rintro e w8 ⟨rfl, hb⟩
    have H8 := hid (below_then H7.out hb)
    clear hb
    have hem : (mkS []).toList.isEmpty = true := by rw [toList_eq, mkS_toList]; rfl
    generalize mkS [] = ee at *
    go_wp2_with fail
    refine (knows3_any _).mono ?_
    rintro e w9 ⟨rfl, hb⟩
    have H9 := hid (below_then H8.out hb)
    clear hb
    go_wp2_with fail
    go_ret
    exact ⟨rfl, H9.out⟩
end Go.Proofs.YtdbghnfmhgjkaaaDoor
