/- WireBack: the walk. -/
import Derived.Test.YtcociocgoiofgaaRdr2
import Derived.Test.YtcociocgoiofgaaWireAll
import Derived.Test.YtcociocgoiofgaaK5
import Derived.Test.YtcociocgoiofgaaK6
import Derived.Test.YtcociocgoiofgaaPureB
import Derived.Deep.RegionWith
import Derived.Deep.RegionHeld3
import Derived.Test.YtcociocgoiofgaaReg
import Derived.Deep.DeepCutAuto
namespace Go.Proofs.Ytcociocgoiofgaa
open Go.RowKit Go.Dio
set_option linter.unusedVariables false
set_option linter.unusedSimpArgs false

theorem pnum_zero (k : Int) (h : (pnum k).2 = 0) : 0 ≤ k ∧ k < 281474976710656 ∧ (pnum k).1 = numB k.toNat := by
  unfold pnum at h ⊢
  split at h
  · rename_i q; rw [if_pos q]; exact ⟨q.1, by omega, rfl⟩
  · simp at h
theorem pnum_thirty (k : Int) (h : (pnum k).2 = 30) : k < 0 ∨ 281474976710656 ≤ k := by
  unfold pnum at h
  split at h
  · simp at h
  · rename_i q; omega
theorem ptext_zero (s : ByteArray) (h : (ptext s).2 = 0) : s.size ≤ 1048576 ∧ (ptext s).1 = textB s.data.toList := by
  unfold ptext at h ⊢
  split at h
  · rename_i q; rw [if_pos q]; exact ⟨q, rfl⟩
  · simp at h
theorem ptext_six (s : ByteArray) (h : (ptext s).2 = 6) : 1048576 < s.size := by
  unfold ptext at h
  split at h
  · simp at h
  · omega
theorem partN_len (zs : List Int) (i : Nat) (h : i < zs.length → 0 ≤ zs.getD i 0 ∧ zs.getD i 0 < 281474976710656) : (partN zs i).length ≤ 8 := by
  unfold partN
  split
  · rename_i q; have := h q; exact numB_le _ (by omega)
  · simp

/-- A round's row so far. -/
def RowAt (e : TypeId) (w wr : World) (v : Value) (xs : List UInt8) : Prop := OwnB e wr w.heap.size v xs ∧ Below w.heap.size w wr

set_option maxRecDepth 100000 in
set_option maxHeartbeats 8000000 in
theorem WireBack_walk (A : Option Addr) (n c : Nat) (zs : List Int) (B : Option Addr) (m d : Nat) (ss : List ByteArray) (M : Option Addr) (p q : Nat) (more : List UInt8) (w : World)
    (h1 : IsI .i64 w A n c zs) (h2 : IsS w B m d ss) (h3 : IsB w M p q more) (hp : p ≤ 140737488351232) :
    Calls Try.prog 12 #[.slice A n c, .slice B m d, .slice M p q] w fun e w' => e = .returned (.bool true) ∧ Below w.heap.size w w' := by
  have hc1 := h1.cap; have hm1 := h1.max
  have hc2 := h2.cap; have hm2 := h2.max
  have H1 := hid h1; have H2 := hid h2; have H3 := hid h3
  have hln := hid h1.len; have hlm := hid h2.len
  clear h1 h2 h3
  obtain ⟨N, hN⟩ : ∃ N, N = max n m := ⟨_, rfl⟩
  have hNn : n ≤ N := by omega
  have hNm : m ≤ N := by omega
  have hNo : ∀ i, i < N → i < n ∨ i < m := fun i hi => by omega
  have HNO := hid hNo
  have HNx := hid (show ∀ i, n ≤ i → m ≤ i → i ≤ N → i = N from fun i _ _ _ => by omega)
  clear hN hNo
  have hN63 : N ≤ 9223372036854775807 := by
    rcases Nat.eq_zero_or_pos N with h0 | h0
    · omega
    · have := HNO.out (N - 1) (by omega); omega
  go_enter Try.func12, Try.ntmps12
  go_wp2_with fail
  go_loopw [7, 8] (fun v7 v8 wr => ∃ i : Nat, i ≤ N ∧ v8 = .int .i64 i ∧ RowAt 5 w wr v7 (rowB zs ss i) ∧ AllOk zs ss i ∧ (rowB zs ss i).length ≤ 20000) (fun _ v8 _ => N - (intOf v8).toNat)
  case atStart => exact ⟨0, by omega, rfl, ⟨OwnB.nil _ _ _, Below.refl _ _⟩, AllOk.zero zs ss, by simp [rowB]⟩
  case round =>
    obtain ⟨i, hi, rfl, hrow, hok, hlen⟩ := hrel
    have HROW := hid hrow; have HOK := hid hok
    clear hrow hok
    by_cases hlt : i < N
    · obtain ⟨acc, hacc⟩ : ∃ acc, acc = rowB zs ss i := ⟨_, rfl⟩
      rw [← hacc] at HROW hlen
      have HACC := hid hacc; clear hacc
      by_cases hin : i < n
      · have hinl : i < zs.length := by rw [hln.out]; exact hin
        have HINL := hid hinl; clear hinl
        obtain ⟨b, o, rfl, hcell⟩ := H1.out.some (by omega)
        have hz := hid (show wr.cell? ⟨b, o + i, none⟩ = some (.int .i64 (zs.getD i 0)) from by
          have := hcell i hin
          rwa [← HROW.out.2.cell (p := ⟨b, o + i, none⟩) (World.block_lt_of_cell? w _ this)] at this)
        have hz' := hz.out
        obtain ⟨hzl, hzh⟩ := H1.out.bd i
        generalize hzz : zs.getD i 0 = z at *
        have HZ := hid hzz
        clear hcell hzz
        go_wp2_with fail
        refine (Num_all z _).mono ?_
        rintro e w1 ⟨v1, rfl, ho1, hb1⟩
        obtain ⟨A1, n1, c1, rfl, hI1, -⟩ := ho1.form
        have HI1 := hid hI1; have HB1 := hid hb1
        clear ho1 hI1 hb1
        rcases pnum_or z with ⟨hpe, hpl⟩ | ⟨hpe, hpl⟩
        rotate_left
        · have hzo := pnum_thirty z hpe
          rw [hpe]
          clear hpe hpl
          have hz'' : w1.cell? ⟨b, o + i, none⟩ = some (.int .i64 z) := by
            have := hz.out
            rwa [← HB1.out.cell (p := ⟨b, o + i, none⟩) (World.block_lt_of_cell? _ _ this)] at this
          by_cases hz0 : z < 0
          · go_wp2_with (go_at_call 22; go_in)
            refine (knows1_any _).mono ?_
            rintro e wk ⟨rfl, hbk⟩
            have HKz := hid (below_then (below_then HROW.out.2 HB1.out) hbk)
            clear hbk
            go_wp2_with fail
            go_ret
            exact ⟨rfl, HKz.out⟩
          · have hz1 : 281474976710656 ≤ z := by omega
            go_wp2_with (go_at_call 22; go_in)
            refine (knows1_any _).mono ?_
            rintro e wk ⟨rfl, hbk⟩
            have HKz := hid (below_then (below_then HROW.out.2 HB1.out) hbk)
            clear hbk
            go_wp2_with fail
            go_ret
            exact ⟨rfl, HKz.out⟩
        · skip
          obtain ⟨hzA, hz2, hz3⟩ := pnum_zero z hpe
          rw [hpe]
          rw [hz3] at HI1
          have hn1 : n1 ≤ 8 := by rw [← HI1.out.len]; exact numB_le _ (by omega)
          have HZ3 := hid hz3
          clear hpe hpl hz3 hz hz'
          go_wp2_with (first | (go_at_call 22; go_in) | (at_builtin; refine wpList_append_b (w0 := w) w.heap.size rfl _ _ 22 5 rfl Try.underlying22 info_u8 _ n1 acc _ A1 c1 rfl rfl (OwnB.below HROW.out.1 HB1.out) HI1.out (below_then HROW.out.2 HB1.out) (below_then HROW.out.2 HB1.out).size (by omega) ?_))
          intro v2 w2 ho2 hb2 hg2 hat2
          have HO2 := hid ho2; have HB2 := hid hb2
          clear ho2 hb2 hg2 hat2
          by_cases him : i < m
          · have himl : i < ss.length := by rw [hlm.out]; exact him
            have HIML := hid himl; clear himl
            obtain ⟨b', o', rfl, hcell⟩ := H2.out.some (by omega)
            have hs := hid (show w2.cell? ⟨b', o' + i, none⟩ = some (.string (ss.getD i ByteArray.empty)) from by
              have := hcell i him
              rwa [← (HB2.out).cell (p := ⟨b', o' + i, none⟩) (World.block_lt_of_cell? w _ this)] at this)
            have hs' := hs.out
            have hsb := H2.out.bd i
            generalize hss : ss.getD i ByteArray.empty = s at *
            have HS := hid hss
            clear hcell hss
            go_wp2_with fail
            refine (Text_all s _).mono ?_
            rintro e w3 ⟨v3, rfl, ho3, hb3⟩
            obtain ⟨A3, n3, c3, rfl, hI3, -⟩ := ho3.form
            have HI3 := hid hI3; have HB3 := hid hb3
            clear ho3 hI3 hb3
            rcases ptext_or s with ⟨hpe, hpl⟩ | ⟨hpe, hpl⟩
            rotate_left
            · have hzo := ptext_six s hpe
              rw [hpe]
              clear hpe hpl
              have hs'' : w3.cell? ⟨b', o' + i, none⟩ = some (.string s) := by
                have := hs.out
                rwa [← HB3.out.cell (p := ⟨b', o' + i, none⟩) (World.block_lt_of_cell? _ _ this)] at this
              go_wp2_with (go_at_call 22; go_in)
              refine (knows1_any _).mono ?_
              rintro e wk ⟨rfl, hbk⟩
              have HKz := hid (below_then (below_then (HB2.out) HB3.out) hbk)
              clear hbk
              go_wp2_with fail
              go_ret
              exact ⟨rfl, HKz.out⟩
            · skip
              obtain ⟨hz1, hz3⟩ := ptext_zero s hpe
              rw [hpe]
              rw [hz3] at HI3
              have hn3 : n3 ≤ 1048584 := by
                rw [← HI3.out.len]; simp only [textB, List.length_append, Array.length_toList]
                have hsd : s.data.size = s.size := rfl
                have hnl := numB_le s.data.size (by omega)
                omega
              have HT3 := hid hz3
              clear hpe hpl hz3 hs hs'
              go_wp2_with (first | (go_at_call 22; go_in) | (at_builtin; refine wpList_append_b (w0 := w) w.heap.size rfl _ _ 22 5 rfl Try.underlying22 info_u8 _ n3 _ _ A3 c3 rfl rfl (OwnB.below HO2.out HB3.out) HI3.out (below_then (HB2.out) HB3.out) (below_then (HB2.out) HB3.out).size ?_ ?_))
              · have := HO2.out.form
                rw [List.length_append, HI1.out.len]; omega
              intro v4 w4 ho4 hb4 hg4 hat4
              have HO4 := hid ho4; have HB4 := hid hb4
              clear ho4 hb4 hg4 hat4
              have HOK1 := hid (HOK.out.succ (fun _ => by rw [HZ.out]; exact ⟨hzA, hz2⟩) (fun _ => by rw [HS.out]; exact hz1))
              obtain ⟨A9, n9, c9, rfl, hI9, -⟩ := (HO4.out).form
              have HI9 := hid hI9
              clear hI9
              have he9 := hid (show acc ++ (numB z.toNat ++ textB s.data.toList) = rowB zs ss (i + 1) from by rw [rowB_succ, partB, partN, partS, if_pos HINL.out, if_pos HIML.out, ← HACC.out, HZ.out, HS.out])
              have hl9 : (rowB zs ss (i + 1)).length = n9 := by rw [← he9.out]; exact HI9.out.len
              have hn9 : n9 ≤ 9223372036854775807 := Nat.le_trans HI9.out.cap HI9.out.max
              have HL9 := hid hl9; clear hl9
              have HOW := hid (OwnB.cast (HO4.out) he9.out)
              by_cases hbig : 20000 < n9
              · go_wp2_with fail
                refine (knows1_any _).mono ?_
                rintro e wk ⟨rfl, hbk⟩
                have HKz := hid (below_then (HB4.out) hbk)
                clear hbk
                go_wp2_with fail
                go_ret
                exact ⟨rfl, HKz.out⟩
              · have hbig' : n9 ≤ 20000 := by omega
                go_wp2_with fail
                go_roundw
                case rel => exact ⟨i + 1, by omega, by go_num, ⟨HOW.out, HB4.out⟩, HOK1.out, by rw [HL9.out]; exact hbig'⟩
                case measure => simp [intOf]; omega
          · have himl := hid (show ¬ i < ss.length by rw [hlm.out]; exact him)
            have HOK1 := hid (HOK.out.succ (fun _ => by rw [HZ.out]; exact ⟨hzA, hz2⟩) (fun q => absurd q himl.out))
            obtain ⟨A9, n9, c9, rfl, hI9, -⟩ := (HO2.out).form
            have HI9 := hid hI9
            clear hI9
            have he9 := hid (show acc ++ numB z.toNat = rowB zs ss (i + 1) from by rw [rowB_succ, partB, partN, partS, if_pos HINL.out, if_neg himl.out, ← HACC.out, HZ.out, List.append_nil])
            have hl9 : (rowB zs ss (i + 1)).length = n9 := by rw [← he9.out]; exact HI9.out.len
            have hn9 : n9 ≤ 9223372036854775807 := Nat.le_trans HI9.out.cap HI9.out.max
            have HL9 := hid hl9; clear hl9
            have HOW := hid (OwnB.cast (HO2.out) he9.out)
            by_cases hbig : 20000 < n9
            · go_wp2_with fail
              refine (knows1_any _).mono ?_
              rintro e wk ⟨rfl, hbk⟩
              have HKz := hid (below_then (HB2.out) hbk)
              clear hbk
              go_wp2_with fail
              go_ret
              exact ⟨rfl, HKz.out⟩
            · have hbig' : n9 ≤ 20000 := by omega
              go_wp2_with fail
              go_roundw
              case rel => exact ⟨i + 1, by omega, by go_num, ⟨HOW.out, HB2.out⟩, HOK1.out, by rw [HL9.out]; exact hbig'⟩
              case measure => simp [intOf]; omega
      · have hinl := hid (show ¬ i < zs.length by rw [hln.out]; exact hin)
        have him : i < m := by have := HNO.out i hlt; omega
        have himl : i < ss.length := by rw [hlm.out]; exact him
        have HIML := hid himl; clear himl
        obtain ⟨b', o', rfl, hcell⟩ := H2.out.some (by omega)
        have hs := hid (show wr.cell? ⟨b', o' + i, none⟩ = some (.string (ss.getD i ByteArray.empty)) from by
          have := hcell i him
          rwa [← (HROW.out.2).cell (p := ⟨b', o' + i, none⟩) (World.block_lt_of_cell? w _ this)] at this)
        have hs' := hs.out
        have hsb := H2.out.bd i
        generalize hss : ss.getD i ByteArray.empty = s at *
        have HS := hid hss
        clear hcell hss
        go_wp2_with fail
        refine (Text_all s _).mono ?_
        rintro e w3 ⟨v3, rfl, ho3, hb3⟩
        obtain ⟨A3, n3, c3, rfl, hI3, -⟩ := ho3.form
        have HI3 := hid hI3; have HB3 := hid hb3
        clear ho3 hI3 hb3
        rcases ptext_or s with ⟨hpe, hpl⟩ | ⟨hpe, hpl⟩
        rotate_left
        · have hzo := ptext_six s hpe
          rw [hpe]
          clear hpe hpl
          have hs'' : w3.cell? ⟨b', o' + i, none⟩ = some (.string s) := by
            have := hs.out
            rwa [← HB3.out.cell (p := ⟨b', o' + i, none⟩) (World.block_lt_of_cell? _ _ this)] at this
          go_wp2_with (go_at_call 22; go_in)
          refine (knows1_any _).mono ?_
          rintro e wk ⟨rfl, hbk⟩
          have HKz := hid (below_then (below_then (HROW.out.2) HB3.out) hbk)
          clear hbk
          go_wp2_with fail
          go_ret
          exact ⟨rfl, HKz.out⟩
        · skip
          obtain ⟨hz1, hz3⟩ := ptext_zero s hpe
          rw [hpe]
          rw [hz3] at HI3
          have hn3 : n3 ≤ 1048584 := by
            rw [← HI3.out.len]; simp only [textB, List.length_append, Array.length_toList]
            have hsd : s.data.size = s.size := rfl
            have hnl := numB_le s.data.size (by omega)
            omega
          have HT3 := hid hz3
          clear hpe hpl hz3 hs hs'
          go_wp2_with (first | (go_at_call 22; go_in) | (at_builtin; refine wpList_append_b (w0 := w) w.heap.size rfl _ _ 22 5 rfl Try.underlying22 info_u8 _ n3 _ _ A3 c3 rfl rfl (OwnB.below HROW.out.1 HB3.out) HI3.out (below_then (HROW.out.2) HB3.out) (below_then (HROW.out.2) HB3.out).size ?_ ?_))
          · omega
          intro v4 w4 ho4 hb4 hg4 hat4
          have HO4 := hid ho4; have HB4 := hid hb4
          clear ho4 hb4 hg4 hat4
          have HOK1 := hid (HOK.out.succ (fun q => absurd q hinl.out) (fun _ => by rw [HS.out]; exact hz1))
          obtain ⟨A9, n9, c9, rfl, hI9, -⟩ := (HO4.out).form
          have HI9 := hid hI9
          clear hI9
          have he9 := hid (show acc ++ textB s.data.toList = rowB zs ss (i + 1) from by rw [rowB_succ, partB, partN, partS, if_neg hinl.out, if_pos HIML.out, ← HACC.out, HS.out, List.nil_append])
          have hl9 : (rowB zs ss (i + 1)).length = n9 := by rw [← he9.out]; exact HI9.out.len
          have hn9 : n9 ≤ 9223372036854775807 := Nat.le_trans HI9.out.cap HI9.out.max
          have HL9 := hid hl9; clear hl9
          have HOW := hid (OwnB.cast (HO4.out) he9.out)
          by_cases hbig : 20000 < n9
          · go_wp2_with fail
            refine (knows1_any _).mono ?_
            rintro e wk ⟨rfl, hbk⟩
            have HKz := hid (below_then (HB4.out) hbk)
            clear hbk
            go_wp2_with fail
            go_ret
            exact ⟨rfl, HKz.out⟩
          · have hbig' : n9 ≤ 20000 := by omega
            go_wp2_with fail
            go_roundw
            case rel => exact ⟨i + 1, by omega, by go_num, ⟨HOW.out, HB4.out⟩, HOK1.out, by rw [HL9.out]; exact hbig'⟩
            case measure => simp [intOf]; omega
    · have hiN : i = N := by omega
      subst hiN
      have hni : ¬ (i : Int) < n := by omega
      have hmi : ¬ (i : Int) < m := by omega
      obtain ⟨A1, n1, c1, e1, hI1, -⟩ := HROW.out.1.form
      subst e1
      have HI1 := hid hI1
      have hn1 : n1 ≤ 20000 := by rw [← hI1.len]; exact hlen
      clear hI1
      have hfl := frameB_len (rowB zs ss i)
      have hnb := numB_le (rowB zs ss i).length (by omega)
      have hfl1 : (frameB (rowB zs ss i)).length ≤ 20013 := by omega
      have hfl0 : 0 < (frameB (rowB zs ss i)).length := by omega
      have hU := unfL_frameB (rowB zs ss i) more (by omega)
      have hR := hid (restB_zero zs ss i)
      generalize hrw : rowB zs ss i = R at *
      have HRW := hid hrw; clear hrw
      clear hfl hnb
      have HU := hid hU; clear hU
      go_wp2_with fail
      refine (Frame_ok A1 n1 c1 R _ HI1.out (by omega)).mono ?_
      rintro e w2 ⟨v2, rfl, ho2, hb2⟩
      obtain ⟨A2, n2, c2, rfl, hI2, -⟩ := ho2.form
      have hn2 := hI2.len
      have HB2 := hid (below_then HROW.out.2 hb2)
      have HB2' := hid hb2
      have HI2 := hid hI2
      clear ho2 hb2 hI2
      rw [hn2] at hfl1 hfl0
      have HN2 := hid hn2; clear hn2
      go_wp2_with (at_builtin; refine wpList_append_b (w0 := w2) w2.heap.size rfl _ _ 22 5 rfl Try.underlying22 info_u8 _ n2 [] _ A2 c2 rfl rfl ?c1 (HI2.out.below (below_alloc1 w2 _)) (below_alloc1 w2 _) ?c2 ?c3 ?_)
      case c1 => exact OwnB.lit _ w2 _ [] (Nat.le_refl _) (by simp)
      case c2 => simp
      case c3 => simp; omega
      intro v3 w3 ho3 hb3 hg3 hat3
      have HO3 := hid ho3; have HB3 := hid hb3
      clear ho3 hb3 hg3 hat3
      go_wp2_with (at_builtin; refine wpList_append_big (w0 := w2) w2.heap.size rfl _ _ 22 5 rfl Try.underlying22 info_u8 _ p _ more M q rfl rfl HO3.out ?d1 ?d2 (H3.out.below (below_then HB2.out HB3.out)) HB3.out HB3.out.size ?d3 ?_)
      case d1 => rw [HN2.out]; exact hfl0
      case d2 => rw [HN2.out]; omega
      case d3 => rw [HN2.out]; omega
      intro v4 w4 ho4 hb4
      obtain ⟨A4, n4, c4, rfl, hI4, -⟩ := ho4.form
      have HI4 := hid hI4; have HB4 := hid hb4
      clear ho4 hb4 hI4
      go_wp2_with fail
      refine (Unframe_any A4 n4 c4 _ _ HI4.out).mono ?_
      rw [HU.out, HN2.out]
      rintro e w5 ⟨v5, rfl, ho5, hb5⟩
      obtain ⟨A5, n5, c5, rfl, hI5, -⟩ := ho5.form
      have HB5 := hid (below_then HB4.out hb5)
      have hs5 := run_string (P := Try.prog) 22 9 5 Try.underlying22 Try.underlying5 Try.underlying9 hI5
      have hs1 := run_string (P := Try.prog) 22 9 5 Try.underlying22 Try.underlying5 Try.underlying9 (HI1.out.below (below_then HB2'.out HB5.out))
      have HI5 := hid hI5
      have hn5 : n5 ≤ 20000 := by rw [← hI5.len, HI1.out.len]; exact hn1
      clear ho5 hb5 hI5
      go_wp2_with (go_at_call 22; go_in)
      refine (Open_any A5 n5 c5 R _ HI5.out (by omega)).mono ?_
      rintro e w6 ⟨rb, rfl, hr6, hb6⟩
      have HB6 := hid (below_then (below_then HB2.out HB5.out) hb6)
      have HR6 := hid hr6
      have hw5 := hid (show w.heap.size ≤ w5.heap.size from (below_then HB2.out HB5.out).size)
      clear hr6 hb6 hs1 hs5
      go_wp2_with fail
      have hrb := hid (Nat.le_trans hw5.out HR6.out.lo)
      go_loopw [19] (fun v19 wr => ∃ j : Nat, j ≤ i ∧ v19 = .int .i64 j ∧ RdrAt wr w5.heap.size rb (restB zs ss i j, 0) ∧ Below w.heap.size w wr) (fun v19 _ => i - (intOf v19).toNat)
      case atStart => exact ⟨0, by omega, rfl, by rw [hR.out]; exact HR6.out, HB6.out⟩
      case round =>
        obtain ⟨j, hj, rfl, hrd, hbw⟩ := hrel
        have hb := hid hbw
        have hsz := hid (show w.heap.size ≤ wr.drew.heap.size from hbw.size)
        clear hbw
        by_cases hlt2 : j < i
        · rw [restB_step zs ss i j hlt2] at hrd
          have HD := hid (hrd.below ((Below.refl _ wr).drew))
          clear hrd
          by_cases jn : j < n
          · obtain ⟨b, o, rfl, hcell⟩ := H1.out.some (by omega)
            have hz0 := hid (hcell j jn)
            have hz1 : wr.drew.cell? ⟨b, o + j, none⟩ = some (.int .i64 (zs.getD j 0)) := by
              rw [(hb.out.drew).cell (p := ⟨b, o + j, none⟩) (World.block_lt_of_cell? w _ hz0.out)]; exact hz0.out
            have hnm := hid (read_num zs ss i j (partS ss j ++ restB zs ss i (j + 1)) HOK.out hlt2 (by rw [hln.out]; exact jn))
            clear hcell
            generalize zs.getD j 0 = zj at *
            by_cases jm : j < m
            · obtain ⟨b', o', rfl, hcell⟩ := H2.out.some (by omega)
              have hs0 := hid (hcell j jm)
              have hs1 : wr.drew.cell? ⟨b', o' + j, none⟩ = some (.string (ss.getD j ByteArray.empty)) := by
                rw [(hb.out.drew).cell (p := ⟨b', o' + j, none⟩) (World.block_lt_of_cell? w _ hs0.out)]; exact hs0.out
              have htm := hid (read_text zs ss i j (restB zs ss i (j + 1)) HOK.out hlt2 (by rw [hlm.out]; exact jm))
              rw [← mkS_data (ss.getD j ByteArray.empty)] at hs1 hs0
              clear hcell
              have htm2 := hid (show rText (partS ss j ++ restB zs ss i (j + 1), 0) = (_, (_, 0)) from htm.out)
              clear htm
              have htm := htm2; clear htm2
              generalize (ss.getD j ByteArray.empty).data.toList = bs at *
              generalize hSj : mkS bs = Sj at *
              have HSJ := hid hSj; clear hSj
              go_wp2_with fail
              refine wp_region_held_drew (S := fun w' => w'.cell? ⟨b, o + j, none⟩ = some (.int .i64 zj) ∧ w'.cell? ⟨b', o' + j, none⟩ = some (.string Sj)) (by kernel_rfl) (by exact ⟨hz1, hs1⟩) (fun hHeld => ?_)
              refine takeL 0 (v := ?_) rfl (by kernel_rfl) (by kernel_rfl) (by kernel_rfl) (fun _ _ _ h => h) (by rfl) ?_ (by assumption) ?_
              case' refine_2 => (intro w hSw; (try dsimp only at hSw); go_simp; try with_reducible rfl)
              try simp only [Act.put, List.setIfInBounds_toArray, List.set_cons_zero, List.set_cons_succ]
              refine takeL 1 (v := ?_) rfl (by kernel_rfl) (by kernel_rfl) (by kernel_rfl) (fun _ _ _ h => h) (by rfl) ?_ (by assumption) ?_
              case' refine_2 => (intro w hSw; (try dsimp only at hSw); go_simp; try with_reducible rfl)
              try simp only [Act.put, List.setIfInBounds_toArray, List.set_cons_zero, List.set_cons_succ]
              refine takeL 2 (v := ?_) rfl (by kernel_rfl) (by kernel_rfl) (by kernel_rfl) (fun _ _ _ h => h) (by rfl) ?_ (by assumption) ?_
              case' refine_2 => (intro w hSw; (try dsimp only at hSw); go_simp; try with_reducible rfl)
              try simp only [Act.put, List.setIfInBounds_toArray, List.set_cons_zero, List.set_cons_succ]
              refine takeL 3 (v := ?_) rfl (by kernel_rfl) (by kernel_rfl) (by kernel_rfl) (fun _ _ _ h => h) (by rfl) ?_ (by assumption) ?_
              case' refine_2 => (intro w hSw; (try dsimp only at hSw); go_simp; try with_reducible rfl)
              try simp only [Act.put, List.setIfInBounds_toArray, List.set_cons_zero, List.set_cons_succ]
              refine takeL 4 (v := ?_) rfl (by kernel_rfl) (by kernel_rfl) (by kernel_rfl) (fun _ _ _ h => h) (by rfl) ?_ (by assumption) ?_
              case' refine_2 => (intro w hSw; (try dsimp only at hSw); go_simp; try with_reducible rfl)
              try simp only [Act.put, List.setIfInBounds_toArray, List.set_cons_zero, List.set_cons_succ]
              refine takeL 5 (v := ?_) rfl (by kernel_rfl) (by kernel_rfl) (by kernel_rfl) (fun _ _ _ h => h) (by rfl) ?_ (by assumption) ?_
              case' refine_2 => (intro w hSw; (try dsimp only at hSw); go_simp; try with_reducible rfl)
              try simp only [Act.put, List.setIfInBounds_toArray, List.set_cons_zero, List.set_cons_succ]
              refine takeL 7 (v := ?_) rfl (by kernel_rfl) (by kernel_rfl) (by kernel_rfl) (fun _ _ _ h => h) (by rfl) ?_ (by assumption) ?_
              case' refine_2 => (intro w hSw; (try dsimp only at hSw); go_simp; try with_reducible rfl)
              try simp only [Act.put, List.setIfInBounds_toArray, List.set_cons_zero, List.set_cons_succ]
              refine takeL 8 (v := ?_) rfl (by kernel_rfl) (by kernel_rfl) (by kernel_rfl) (fun _ _ _ h => h) (by rfl) ?_ (by assumption) ?_
              case' refine_2 => (intro w hSw; (try dsimp only at hSw); go_simp; try with_reducible rfl)
              try simp only [Act.put, List.setIfInBounds_toArray, List.set_cons_zero, List.set_cons_succ]
              refine takeL 9 (v := ?_) rfl (by kernel_rfl) (by kernel_rfl) (by kernel_rfl) (fun _ _ _ h => h) (by rfl) ?_ (by assumption) ?_
              case' refine_2 => (intro w hSw; (try dsimp only at hSw); go_simp; try with_reducible rfl)
              try simp only [Act.put, List.setIfInBounds_toArray, List.set_cons_zero, List.set_cons_succ]
              refine takeL 10 (v := ?_) rfl (by kernel_rfl) (by kernel_rfl) (by kernel_rfl) (fun _ _ _ h => h) (by rfl) ?_ (by assumption) ?_
              case' refine_2 => (intro w hSw; (try dsimp only at hSw); go_simp; try with_reducible rfl)
              try simp only [Act.put, List.setIfInBounds_toArray, List.set_cons_zero, List.set_cons_succ]
              refine soloL 6 rfl (by kernel_rfl) (fun K hK => ?_)
              go_simp
              go_at_call 64
              refine (Num_r _ rb _ _ HD.out).mono ?_
              rw [hnm.out]
              rintro e w7 ⟨rfl, hr7, hg7⟩
              have hB7 := hid ((hb.out.drew).grown hg7 hsz.out (fun q hq => by cases hq; exact hrb.out))
              have hr7' := hid hr7
              have hz7 : w7.cell? ⟨b, o + j, none⟩ = some (.int .i64 zj) := by { rw [hB7.out.cell (p := ⟨b, o + j, none⟩) (World.block_lt_of_cell? w _ hz0.out)]; exact hz0.out }
              have hs7 : w7.cell? ⟨b', o' + j, none⟩ = some (.string Sj) := by { rw [hB7.out.cell (p := ⟨b', o' + j, none⟩) (World.block_lt_of_cell? w _ hs0.out)]; exact hs0.out }
              clear hr7 hg7
              go_wp2_with fail
              refine hK.out _ _ ⟨hz7, hs7⟩ (fun hHeld => ?_)
              clear hK K
              refine takeL 11 (v := ?_) rfl (by kernel_rfl) (by kernel_rfl) (by kernel_rfl) (fun _ _ _ h => h) (by rfl) ?_ (by assumption) ?_
              case' refine_2 => (intro w hSw; (try dsimp only at hSw); go_simp; try with_reducible rfl)
              try simp only [Act.put, List.setIfInBounds_toArray, List.set_cons_zero, List.set_cons_succ]
              refine takeL 12 (v := ?_) rfl (by kernel_rfl) (by kernel_rfl) (by kernel_rfl) (fun _ _ _ h => h) (by rfl) ?_ (by assumption) ?_
              case' refine_2 => (intro w hSw; (try dsimp only at hSw); go_simp; try with_reducible rfl)
              try simp only [Act.put, List.setIfInBounds_toArray, List.set_cons_zero, List.set_cons_succ]
              refine takeL 13 (v := ?_) rfl (by kernel_rfl) (by kernel_rfl) (by kernel_rfl) (fun _ _ _ h => h) (by rfl) ?_ (by assumption) ?_
              case' refine_2 => (intro w hSw; (try dsimp only at hSw); go_simp; try with_reducible rfl)
              try simp only [Act.put, List.setIfInBounds_toArray, List.set_cons_zero, List.set_cons_succ]
              refine takeL 14 (v := ?_) rfl (by kernel_rfl) (by kernel_rfl) (by kernel_rfl) (fun _ _ _ h => h) (by rfl) ?_ (by assumption) ?_
              case' refine_2 => (intro w hSw; (try dsimp only at hSw); go_simp; try with_reducible rfl)
              try simp only [Act.put, List.setIfInBounds_toArray, List.set_cons_zero, List.set_cons_succ]
              refine takeL 15 (v := ?_) rfl (by kernel_rfl) (by kernel_rfl) (by kernel_rfl) (fun _ _ _ h => h) (by rfl) ?_ (by assumption) ?_
              case' refine_2 => (intro w hSw; (try dsimp only at hSw); go_simp; try with_reducible rfl)
              try simp only [Act.put, List.setIfInBounds_toArray, List.set_cons_zero, List.set_cons_succ]
              refine takeL 16 (v := ?_) rfl (by kernel_rfl) (by kernel_rfl) (by kernel_rfl) (fun _ _ _ h => h) (by rfl) ?_ (by assumption) ?_
              case' refine_2 => (intro w hSw; (try dsimp only at hSw); go_simp; try with_reducible rfl)
              try simp only [Act.put, List.setIfInBounds_toArray, List.set_cons_zero, List.set_cons_succ]
              refine takeL 17 (v := ?_) rfl (by kernel_rfl) (by kernel_rfl) (by kernel_rfl) (fun _ _ _ h => h) (by rfl) ?_ (by assumption) ?_
              case' refine_2 => (intro w hSw; (try dsimp only at hSw); go_simp; try with_reducible rfl)
              try simp only [Act.put, List.setIfInBounds_toArray, List.set_cons_zero, List.set_cons_succ]
              refine takeL 18 (v := ?_) rfl (by kernel_rfl) (by kernel_rfl) (by kernel_rfl) (fun _ _ _ h => h) (by rfl) ?_ (by assumption) ?_
              case' refine_2 => (intro w hSw; (try dsimp only at hSw); go_simp; try with_reducible rfl)
              try simp only [Act.put, List.setIfInBounds_toArray, List.set_cons_zero, List.set_cons_succ]
              refine takeL 19 (v := ?_) rfl (by kernel_rfl) (by kernel_rfl) (by kernel_rfl) (fun _ _ _ h => h) (by rfl) ?_ (by assumption) ?_
              case' refine_2 => (intro w hSw; (try dsimp only at hSw); go_simp; try with_reducible rfl)
              try simp only [Act.put, List.setIfInBounds_toArray, List.set_cons_zero, List.set_cons_succ]
              refine takeL 21 (v := ?_) rfl (by kernel_rfl) (by kernel_rfl) (by kernel_rfl) (fun _ _ _ h => h) (by rfl) ?_ (by assumption) ?_
              case' refine_2 => (intro w hSw; (try dsimp only at hSw); go_simp; try with_reducible rfl)
              try simp only [Act.put, List.setIfInBounds_toArray, List.set_cons_zero, List.set_cons_succ]
              refine takeL 22 (v := ?_) rfl (by kernel_rfl) (by kernel_rfl) (by kernel_rfl) (fun _ _ _ h => h) (by rfl) ?_ (by assumption) ?_
              case' refine_2 => (intro w hSw; (try dsimp only at hSw); go_simp; try with_reducible rfl)
              try simp only [Act.put, List.setIfInBounds_toArray, List.set_cons_zero, List.set_cons_succ]
              refine takeL 23 (v := ?_) rfl (by kernel_rfl) (by kernel_rfl) (by kernel_rfl) (fun _ _ _ h => h) (by rfl) ?_ (by assumption) ?_
              case' refine_2 => (intro w hSw; (try dsimp only at hSw); go_simp; try with_reducible rfl)
              try simp only [Act.put, List.setIfInBounds_toArray, List.set_cons_zero, List.set_cons_succ]
              refine takeL 24 (v := ?_) rfl (by kernel_rfl) (by kernel_rfl) (by kernel_rfl) (fun _ _ _ h => h) (by rfl) ?_ (by assumption) ?_
              case' refine_2 => (intro w hSw; (try dsimp only at hSw); go_simp; try with_reducible rfl)
              try simp only [Act.put, List.setIfInBounds_toArray, List.set_cons_zero, List.set_cons_succ]
              refine soloL 20 rfl (by kernel_rfl) (fun K hK => ?_)
              go_simp
              go_at_call 65
              refine (Text_r _ rb _ _ hr7'.out).mono ?_
              rw [htm.out]; dsimp only; rw [HSJ.out]
              rintro e w8 ⟨rfl, hr8, hg8⟩
              have hB8 := hid ((hB7.out).grown hg8 (hB7.out).size (fun q hq => by cases hq; exact hrb.out))
              have hr8' := hid hr8
              have hz8 : w8.cell? ⟨b, o + j, none⟩ = some (.int .i64 zj) := by { rw [hB8.out.cell (p := ⟨b, o + j, none⟩) (World.block_lt_of_cell? w _ hz0.out)]; exact hz0.out }
              have hs8 : w8.cell? ⟨b', o' + j, none⟩ = some (.string Sj) := by { rw [hB8.out.cell (p := ⟨b', o' + j, none⟩) (World.block_lt_of_cell? w _ hs0.out)]; exact hs0.out }
              clear hr8 hg8
              go_wp2_with fail
              refine hK.out _ _ ⟨hz8, hs8⟩ (fun hHeld => ?_)
              clear hK K
              refine takeL 25 (v := ?_) rfl (by kernel_rfl) (by kernel_rfl) (by kernel_rfl) (fun _ _ _ h => h) (by rfl) ?_ (by assumption) ?_
              case' refine_2 => (intro w hSw; (try dsimp only at hSw); go_simp; try with_reducible rfl)
              try simp only [Act.put, List.setIfInBounds_toArray, List.set_cons_zero, List.set_cons_succ]
              refine takeL 26 (v := ?_) rfl (by kernel_rfl) (by kernel_rfl) (by kernel_rfl) (fun _ _ _ h => h) (by rfl) ?_ (by assumption) ?_
              case' refine_2 => (intro w hSw; (try dsimp only at hSw); go_simp; try with_reducible rfl)
              try simp only [Act.put, List.setIfInBounds_toArray, List.set_cons_zero, List.set_cons_succ]
              refine takeL 27 (v := ?_) rfl (by kernel_rfl) (by kernel_rfl) (by kernel_rfl) (fun _ _ _ h => h) (by rfl) ?_ (by assumption) ?_
              case' refine_2 => (intro w hSw; (try dsimp only at hSw); go_simp; try with_reducible rfl)
              try simp only [Act.put, List.setIfInBounds_toArray, List.set_cons_zero, List.set_cons_succ]
              refine wpAnyH_done (by kernel_rfl) ?_ _
              go_wp2
              go_roundw
              case rel => exact ⟨j + 1, by omega, by go_num, hr8'.out, hB8.out⟩
              case measure => simp [intOf]; omega
            · rw [skip_text ss j _ (by rw [hlm.out]; exact jm)] at hnm HD
              have jm' : ¬ (j : Int) < m := by omega
              go_wp2_with fail
              refine wp_region_held_drew (S := fun w' => w'.cell? ⟨b, o + j, none⟩ = some (.int .i64 zj)) (by kernel_rfl) (by exact hz1) (fun hHeld => ?_)
              refine takeL 0 (v := ?_) rfl (by kernel_rfl) (by kernel_rfl) (by kernel_rfl) (fun _ _ _ h => h) (by rfl) ?_ (by assumption) ?_
              case' refine_2 => (intro w hSw; (try dsimp only at hSw); go_simp; try with_reducible rfl)
              try simp only [Act.put, List.setIfInBounds_toArray, List.set_cons_zero, List.set_cons_succ]
              refine takeL 1 (v := ?_) rfl (by kernel_rfl) (by kernel_rfl) (by kernel_rfl) (fun _ _ _ h => h) (by rfl) ?_ (by assumption) ?_
              case' refine_2 => (intro w hSw; (try dsimp only at hSw); go_simp; try with_reducible rfl)
              try simp only [Act.put, List.setIfInBounds_toArray, List.set_cons_zero, List.set_cons_succ]
              refine takeL 2 (v := ?_) rfl (by kernel_rfl) (by kernel_rfl) (by kernel_rfl) (fun _ _ _ h => h) (by rfl) ?_ (by assumption) ?_
              case' refine_2 => (intro w hSw; (try dsimp only at hSw); go_simp; try with_reducible rfl)
              try simp only [Act.put, List.setIfInBounds_toArray, List.set_cons_zero, List.set_cons_succ]
              refine takeL 3 (v := ?_) rfl (by kernel_rfl) (by kernel_rfl) (by kernel_rfl) (fun _ _ _ h => h) (by rfl) ?_ (by assumption) ?_
              case' refine_2 => (intro w hSw; (try dsimp only at hSw); go_simp; try with_reducible rfl)
              try simp only [Act.put, List.setIfInBounds_toArray, List.set_cons_zero, List.set_cons_succ]
              refine takeL 4 (v := ?_) rfl (by kernel_rfl) (by kernel_rfl) (by kernel_rfl) (fun _ _ _ h => h) (by rfl) ?_ (by assumption) ?_
              case' refine_2 => (intro w hSw; (try dsimp only at hSw); go_simp; try with_reducible rfl)
              try simp only [Act.put, List.setIfInBounds_toArray, List.set_cons_zero, List.set_cons_succ]
              refine takeL 5 (v := ?_) rfl (by kernel_rfl) (by kernel_rfl) (by kernel_rfl) (fun _ _ _ h => h) (by rfl) ?_ (by assumption) ?_
              case' refine_2 => (intro w hSw; (try dsimp only at hSw); go_simp; try with_reducible rfl)
              try simp only [Act.put, List.setIfInBounds_toArray, List.set_cons_zero, List.set_cons_succ]
              refine takeL 7 (v := ?_) rfl (by kernel_rfl) (by kernel_rfl) (by kernel_rfl) (fun _ _ _ h => h) (by rfl) ?_ (by assumption) ?_
              case' refine_2 => (intro w hSw; (try dsimp only at hSw); go_simp; try with_reducible rfl)
              try simp only [Act.put, List.setIfInBounds_toArray, List.set_cons_zero, List.set_cons_succ]
              refine takeL 8 (v := ?_) rfl (by kernel_rfl) (by kernel_rfl) (by kernel_rfl) (fun _ _ _ h => h) (by rfl) ?_ (by assumption) ?_
              case' refine_2 => (intro w hSw; (try dsimp only at hSw); go_simp; try with_reducible rfl)
              try simp only [Act.put, List.setIfInBounds_toArray, List.set_cons_zero, List.set_cons_succ]
              refine takeL 9 (v := ?_) rfl (by kernel_rfl) (by kernel_rfl) (by kernel_rfl) (fun _ _ _ h => h) (by rfl) ?_ (by assumption) ?_
              case' refine_2 => (intro w hSw; (try dsimp only at hSw); go_simp; try with_reducible rfl)
              try simp only [Act.put, List.setIfInBounds_toArray, List.set_cons_zero, List.set_cons_succ]
              refine takeL 10 (v := ?_) rfl (by kernel_rfl) (by kernel_rfl) (by kernel_rfl) (fun _ _ _ h => h) (by rfl) ?_ (by assumption) ?_
              case' refine_2 => (intro w hSw; (try dsimp only at hSw); go_simp; try with_reducible rfl)
              try simp only [Act.put, List.setIfInBounds_toArray, List.set_cons_zero, List.set_cons_succ]
              refine soloL 6 rfl (by kernel_rfl) (fun K hK => ?_)
              go_simp
              go_at_call 64
              refine (Num_r _ rb _ _ HD.out).mono ?_
              rw [hnm.out]
              rintro e w7 ⟨rfl, hr7, hg7⟩
              have hB7 := hid ((hb.out.drew).grown hg7 hsz.out (fun q hq => by cases hq; exact hrb.out))
              have hr7' := hid hr7
              have hz7 : w7.cell? ⟨b, o + j, none⟩ = some (.int .i64 zj) := by { rw [hB7.out.cell (p := ⟨b, o + j, none⟩) (World.block_lt_of_cell? w _ hz0.out)]; exact hz0.out }
              clear hr7 hg7
              go_wp2_with fail
              refine hK.out _ _ hz7 (fun hHeld => ?_)
              clear hK K
              refine takeL 11 (v := ?_) rfl (by kernel_rfl) (by kernel_rfl) (by kernel_rfl) (fun _ _ _ h => h) (by rfl) ?_ (by assumption) ?_
              case' refine_2 => (intro w hSw; (try dsimp only at hSw); go_simp; try with_reducible rfl)
              try simp only [Act.put, List.setIfInBounds_toArray, List.set_cons_zero, List.set_cons_succ]
              refine takeL 12 (v := ?_) rfl (by kernel_rfl) (by kernel_rfl) (by kernel_rfl) (fun _ _ _ h => h) (by rfl) ?_ (by assumption) ?_
              case' refine_2 => (intro w hSw; (try dsimp only at hSw); go_simp; try with_reducible rfl)
              try simp only [Act.put, List.setIfInBounds_toArray, List.set_cons_zero, List.set_cons_succ]
              refine takeL 13 (v := ?_) rfl (by kernel_rfl) (by kernel_rfl) (by kernel_rfl) (fun _ _ _ h => h) (by rfl) ?_ (by assumption) ?_
              case' refine_2 => (intro w hSw; (try dsimp only at hSw); go_simp; try with_reducible rfl)
              try simp only [Act.put, List.setIfInBounds_toArray, List.set_cons_zero, List.set_cons_succ]
              refine takeL 14 (v := ?_) rfl (by kernel_rfl) (by kernel_rfl) (by kernel_rfl) (fun _ _ _ h => h) (by rfl) ?_ (by assumption) ?_
              case' refine_2 => (intro w hSw; (try dsimp only at hSw); go_simp; try with_reducible rfl)
              try simp only [Act.put, List.setIfInBounds_toArray, List.set_cons_zero, List.set_cons_succ]
              refine takeL 15 (v := ?_) rfl (by kernel_rfl) (by kernel_rfl) (by kernel_rfl) (fun _ _ _ h => h) (by rfl) ?_ (by assumption) ?_
              case' refine_2 => (intro w hSw; (try dsimp only at hSw); go_simp; try with_reducible rfl)
              try simp only [Act.put, List.setIfInBounds_toArray, List.set_cons_zero, List.set_cons_succ]
              refine takeL 16 (v := ?_) rfl (by kernel_rfl) (by kernel_rfl) (by kernel_rfl) (fun _ _ _ h => h) (by rfl) ?_ (by assumption) ?_
              case' refine_2 => (intro w hSw; (try dsimp only at hSw); go_simp; try with_reducible rfl)
              try simp only [Act.put, List.setIfInBounds_toArray, List.set_cons_zero, List.set_cons_succ]
              refine takeL 17 (v := ?_) rfl (by kernel_rfl) (by kernel_rfl) (by kernel_rfl) (fun _ _ _ h => h) (by rfl) ?_ (by assumption) ?_
              case' refine_2 => (intro w hSw; (try dsimp only at hSw); go_simp; try with_reducible rfl)
              try simp only [Act.put, List.setIfInBounds_toArray, List.set_cons_zero, List.set_cons_succ]
              refine takeL 18 (v := ?_) rfl (by kernel_rfl) (by kernel_rfl) (by kernel_rfl) (fun _ _ _ h => h) (by rfl) ?_ (by assumption) ?_
              case' refine_2 => (intro w hSw; (try dsimp only at hSw); go_simp; try with_reducible rfl)
              try simp only [Act.put, List.setIfInBounds_toArray, List.set_cons_zero, List.set_cons_succ]
              refine skipL 19 rfl (by kernel_rfl) (by kernel_rfl) (by kernel_rfl) (fun _ _ _ h => h) (by rfl) (by assumption) ?_
              try simp only [Act.put, List.setIfInBounds_toArray, List.set_cons_zero, List.set_cons_succ]
              refine skipL 20 rfl (by kernel_rfl) (by kernel_rfl) (by kernel_rfl) (fun _ _ _ h => h) (by rfl) (by assumption) ?_
              try simp only [Act.put, List.setIfInBounds_toArray, List.set_cons_zero, List.set_cons_succ]
              refine skipL 21 rfl (by kernel_rfl) (by kernel_rfl) (by kernel_rfl) (fun _ _ _ h => h) (by rfl) (by assumption) ?_
              try simp only [Act.put, List.setIfInBounds_toArray, List.set_cons_zero, List.set_cons_succ]
              refine skipL 22 rfl (by kernel_rfl) (by kernel_rfl) (by kernel_rfl) (fun _ _ _ h => h) (by rfl) (by assumption) ?_
              try simp only [Act.put, List.setIfInBounds_toArray, List.set_cons_zero, List.set_cons_succ]
              refine skipL 23 rfl (by kernel_rfl) (by kernel_rfl) (by kernel_rfl) (fun _ _ _ h => h) (by rfl) (by assumption) ?_
              try simp only [Act.put, List.setIfInBounds_toArray, List.set_cons_zero, List.set_cons_succ]
              refine skipL 24 rfl (by kernel_rfl) (by kernel_rfl) (by kernel_rfl) (fun _ _ _ h => h) (by rfl) (by assumption) ?_
              try simp only [Act.put, List.setIfInBounds_toArray, List.set_cons_zero, List.set_cons_succ]
              refine skipL 25 rfl (by kernel_rfl) (by kernel_rfl) (by kernel_rfl) (fun _ _ _ h => h) (by rfl) (by assumption) ?_
              try simp only [Act.put, List.setIfInBounds_toArray, List.set_cons_zero, List.set_cons_succ]
              refine takeL 26 (v := ?_) rfl (by kernel_rfl) (by kernel_rfl) (by kernel_rfl) (fun _ _ _ h => h) (by rfl) ?_ (by assumption) ?_
              case' refine_2 => (intro w hSw; (try dsimp only at hSw); go_simp; try with_reducible rfl)
              try simp only [Act.put, List.setIfInBounds_toArray, List.set_cons_zero, List.set_cons_succ]
              refine takeL 27 (v := ?_) rfl (by kernel_rfl) (by kernel_rfl) (by kernel_rfl) (fun _ _ _ h => h) (by rfl) ?_ (by assumption) ?_
              case' refine_2 => (intro w hSw; (try dsimp only at hSw); go_simp; try with_reducible rfl)
              try simp only [Act.put, List.setIfInBounds_toArray, List.set_cons_zero, List.set_cons_succ]
              refine wpAnyH_done (by kernel_rfl) ?_ _
              go_wp2
              go_roundw
              case rel => exact ⟨j + 1, by omega, by go_num, hr7'.out, hB7.out⟩
              case measure => simp [intOf]; omega
          · have jm : j < m := by have := HNO.out j hlt2; omega
            rw [skip_num zs j _ (by rw [hln.out]; exact jn)] at HD
            have jn' : ¬ (j : Int) < n := by omega
            obtain ⟨b', o', rfl, hcell⟩ := H2.out.some (by omega)
            have hs0 := hid (hcell j jm)
            have hs1 : wr.drew.cell? ⟨b', o' + j, none⟩ = some (.string (ss.getD j ByteArray.empty)) := by
              rw [(hb.out.drew).cell (p := ⟨b', o' + j, none⟩) (World.block_lt_of_cell? w _ hs0.out)]; exact hs0.out
            have htm := hid (read_text zs ss i j (restB zs ss i (j + 1)) HOK.out hlt2 (by rw [hlm.out]; exact jm))
            rw [← mkS_data (ss.getD j ByteArray.empty)] at hs1 hs0
            clear hcell
            generalize (ss.getD j ByteArray.empty).data.toList = bs at *
            generalize hSj : mkS bs = Sj at *
            have HSJ := hid hSj; clear hSj
            go_wp2_with fail
            refine wp_region_held_drew (S := fun w' => w'.cell? ⟨b', o' + j, none⟩ = some (.string Sj)) (by kernel_rfl) (by exact hs1) (fun hHeld => ?_)
            refine takeL 0 (v := ?_) rfl (by kernel_rfl) (by kernel_rfl) (by kernel_rfl) (fun _ _ _ h => h) (by rfl) ?_ (by assumption) ?_
            case' refine_2 => (intro w hSw; (try dsimp only at hSw); go_simp; try with_reducible rfl)
            try simp only [Act.put, List.setIfInBounds_toArray, List.set_cons_zero, List.set_cons_succ]
            refine takeL 1 (v := ?_) rfl (by kernel_rfl) (by kernel_rfl) (by kernel_rfl) (fun _ _ _ h => h) (by rfl) ?_ (by assumption) ?_
            case' refine_2 => (intro w hSw; (try dsimp only at hSw); go_simp; try with_reducible rfl)
            try simp only [Act.put, List.setIfInBounds_toArray, List.set_cons_zero, List.set_cons_succ]
            refine takeL 2 (v := ?_) rfl (by kernel_rfl) (by kernel_rfl) (by kernel_rfl) (fun _ _ _ h => h) (by rfl) ?_ (by assumption) ?_
            case' refine_2 => (intro w hSw; (try dsimp only at hSw); go_simp; try with_reducible rfl)
            try simp only [Act.put, List.setIfInBounds_toArray, List.set_cons_zero, List.set_cons_succ]
            refine takeL 3 (v := ?_) rfl (by kernel_rfl) (by kernel_rfl) (by kernel_rfl) (fun _ _ _ h => h) (by rfl) ?_ (by assumption) ?_
            case' refine_2 => (intro w hSw; (try dsimp only at hSw); go_simp; try with_reducible rfl)
            try simp only [Act.put, List.setIfInBounds_toArray, List.set_cons_zero, List.set_cons_succ]
            refine takeL 4 (v := ?_) rfl (by kernel_rfl) (by kernel_rfl) (by kernel_rfl) (fun _ _ _ h => h) (by rfl) ?_ (by assumption) ?_
            case' refine_2 => (intro w hSw; (try dsimp only at hSw); go_simp; try with_reducible rfl)
            try simp only [Act.put, List.setIfInBounds_toArray, List.set_cons_zero, List.set_cons_succ]
            refine skipL 5 rfl (by kernel_rfl) (by kernel_rfl) (by kernel_rfl) (fun _ _ _ h => h) (by rfl) (by assumption) ?_
            try simp only [Act.put, List.setIfInBounds_toArray, List.set_cons_zero, List.set_cons_succ]
            refine skipL 6 rfl (by kernel_rfl) (by kernel_rfl) (by kernel_rfl) (fun _ _ _ h => h) (by rfl) (by assumption) ?_
            try simp only [Act.put, List.setIfInBounds_toArray, List.set_cons_zero, List.set_cons_succ]
            refine skipL 7 rfl (by kernel_rfl) (by kernel_rfl) (by kernel_rfl) (fun _ _ _ h => h) (by rfl) (by assumption) ?_
            try simp only [Act.put, List.setIfInBounds_toArray, List.set_cons_zero, List.set_cons_succ]
            refine skipL 8 rfl (by kernel_rfl) (by kernel_rfl) (by kernel_rfl) (fun _ _ _ h => h) (by rfl) (by assumption) ?_
            try simp only [Act.put, List.setIfInBounds_toArray, List.set_cons_zero, List.set_cons_succ]
            refine skipL 9 rfl (by kernel_rfl) (by kernel_rfl) (by kernel_rfl) (fun _ _ _ h => h) (by rfl) (by assumption) ?_
            try simp only [Act.put, List.setIfInBounds_toArray, List.set_cons_zero, List.set_cons_succ]
            refine skipL 10 rfl (by kernel_rfl) (by kernel_rfl) (by kernel_rfl) (fun _ _ _ h => h) (by rfl) (by assumption) ?_
            try simp only [Act.put, List.setIfInBounds_toArray, List.set_cons_zero, List.set_cons_succ]
            refine skipL 11 rfl (by kernel_rfl) (by kernel_rfl) (by kernel_rfl) (fun _ _ _ h => h) (by rfl) (by assumption) ?_
            try simp only [Act.put, List.setIfInBounds_toArray, List.set_cons_zero, List.set_cons_succ]
            refine takeL 12 (v := ?_) rfl (by kernel_rfl) (by kernel_rfl) (by kernel_rfl) (fun _ _ _ h => h) (by rfl) ?_ (by assumption) ?_
            case' refine_2 => (intro w hSw; (try dsimp only at hSw); go_simp; try with_reducible rfl)
            try simp only [Act.put, List.setIfInBounds_toArray, List.set_cons_zero, List.set_cons_succ]
            refine takeL 13 (v := ?_) rfl (by kernel_rfl) (by kernel_rfl) (by kernel_rfl) (fun _ _ _ h => h) (by rfl) ?_ (by assumption) ?_
            case' refine_2 => (intro w hSw; (try dsimp only at hSw); go_simp; try with_reducible rfl)
            try simp only [Act.put, List.setIfInBounds_toArray, List.set_cons_zero, List.set_cons_succ]
            refine takeL 14 (v := ?_) rfl (by kernel_rfl) (by kernel_rfl) (by kernel_rfl) (fun _ _ _ h => h) (by rfl) ?_ (by assumption) ?_
            case' refine_2 => (intro w hSw; (try dsimp only at hSw); go_simp; try with_reducible rfl)
            try simp only [Act.put, List.setIfInBounds_toArray, List.set_cons_zero, List.set_cons_succ]
            refine takeL 15 (v := ?_) rfl (by kernel_rfl) (by kernel_rfl) (by kernel_rfl) (fun _ _ _ h => h) (by rfl) ?_ (by assumption) ?_
            case' refine_2 => (intro w hSw; (try dsimp only at hSw); go_simp; try with_reducible rfl)
            try simp only [Act.put, List.setIfInBounds_toArray, List.set_cons_zero, List.set_cons_succ]
            refine takeL 16 (v := ?_) rfl (by kernel_rfl) (by kernel_rfl) (by kernel_rfl) (fun _ _ _ h => h) (by rfl) ?_ (by assumption) ?_
            case' refine_2 => (intro w hSw; (try dsimp only at hSw); go_simp; try with_reducible rfl)
            try simp only [Act.put, List.setIfInBounds_toArray, List.set_cons_zero, List.set_cons_succ]
            refine takeL 17 (v := ?_) rfl (by kernel_rfl) (by kernel_rfl) (by kernel_rfl) (fun _ _ _ h => h) (by rfl) ?_ (by assumption) ?_
            case' refine_2 => (intro w hSw; (try dsimp only at hSw); go_simp; try with_reducible rfl)
            try simp only [Act.put, List.setIfInBounds_toArray, List.set_cons_zero, List.set_cons_succ]
            refine takeL 18 (v := ?_) rfl (by kernel_rfl) (by kernel_rfl) (by kernel_rfl) (fun _ _ _ h => h) (by rfl) ?_ (by assumption) ?_
            case' refine_2 => (intro w hSw; (try dsimp only at hSw); go_simp; try with_reducible rfl)
            try simp only [Act.put, List.setIfInBounds_toArray, List.set_cons_zero, List.set_cons_succ]
            refine takeL 19 (v := ?_) rfl (by kernel_rfl) (by kernel_rfl) (by kernel_rfl) (fun _ _ _ h => h) (by rfl) ?_ (by assumption) ?_
            case' refine_2 => (intro w hSw; (try dsimp only at hSw); go_simp; try with_reducible rfl)
            try simp only [Act.put, List.setIfInBounds_toArray, List.set_cons_zero, List.set_cons_succ]
            refine takeL 21 (v := ?_) rfl (by kernel_rfl) (by kernel_rfl) (by kernel_rfl) (fun _ _ _ h => h) (by rfl) ?_ (by assumption) ?_
            case' refine_2 => (intro w hSw; (try dsimp only at hSw); go_simp; try with_reducible rfl)
            try simp only [Act.put, List.setIfInBounds_toArray, List.set_cons_zero, List.set_cons_succ]
            refine takeL 22 (v := ?_) rfl (by kernel_rfl) (by kernel_rfl) (by kernel_rfl) (fun _ _ _ h => h) (by rfl) ?_ (by assumption) ?_
            case' refine_2 => (intro w hSw; (try dsimp only at hSw); go_simp; try with_reducible rfl)
            try simp only [Act.put, List.setIfInBounds_toArray, List.set_cons_zero, List.set_cons_succ]
            refine takeL 23 (v := ?_) rfl (by kernel_rfl) (by kernel_rfl) (by kernel_rfl) (fun _ _ _ h => h) (by rfl) ?_ (by assumption) ?_
            case' refine_2 => (intro w hSw; (try dsimp only at hSw); go_simp; try with_reducible rfl)
            try simp only [Act.put, List.setIfInBounds_toArray, List.set_cons_zero, List.set_cons_succ]
            refine takeL 24 (v := ?_) rfl (by kernel_rfl) (by kernel_rfl) (by kernel_rfl) (fun _ _ _ h => h) (by rfl) ?_ (by assumption) ?_
            case' refine_2 => (intro w hSw; (try dsimp only at hSw); go_simp; try with_reducible rfl)
            try simp only [Act.put, List.setIfInBounds_toArray, List.set_cons_zero, List.set_cons_succ]
            refine soloL 20 rfl (by kernel_rfl) (fun K hK => ?_)
            go_simp
            go_at_call 65
            refine (Text_r _ rb _ _ HD.out).mono ?_
            rw [htm.out]; dsimp only; rw [HSJ.out]
            rintro e w8 ⟨rfl, hr8, hg8⟩
            have hB8 := hid ((hb.out.drew).grown hg8 (hb.out.drew).size (fun q hq => by cases hq; exact hrb.out))
            have hr8' := hid hr8
            have hs8 : w8.cell? ⟨b', o' + j, none⟩ = some (.string Sj) := by { rw [hB8.out.cell (p := ⟨b', o' + j, none⟩) (World.block_lt_of_cell? w _ hs0.out)]; exact hs0.out }
            clear hr8 hg8
            go_wp2_with fail
            refine hK.out _ _ hs8 (fun hHeld => ?_)
            refine takeL 25 (v := ?_) rfl (by kernel_rfl) (by kernel_rfl) (by kernel_rfl) (fun _ _ _ h => h) (by rfl) ?_ (by assumption) ?_
            case' refine_2 => (intro w hSw; (try dsimp only at hSw); go_simp; try with_reducible rfl)
            try simp only [Act.put, List.setIfInBounds_toArray, List.set_cons_zero, List.set_cons_succ]
            refine takeL 26 (v := ?_) rfl (by kernel_rfl) (by kernel_rfl) (by kernel_rfl) (fun _ _ _ h => h) (by rfl) ?_ (by assumption) ?_
            case' refine_2 => (intro w hSw; (try dsimp only at hSw); go_simp; try with_reducible rfl)
            try simp only [Act.put, List.setIfInBounds_toArray, List.set_cons_zero, List.set_cons_succ]
            refine takeL 27 (v := ?_) rfl (by kernel_rfl) (by kernel_rfl) (by kernel_rfl) (fun _ _ _ h => h) (by rfl) ?_ (by assumption) ?_
            case' refine_2 => (intro w hSw; (try dsimp only at hSw); go_simp; try with_reducible rfl)
            try simp only [Act.put, List.setIfInBounds_toArray, List.set_cons_zero, List.set_cons_succ]
            refine wpAnyH_done (by kernel_rfl) ?_ _
            go_wp2
            go_roundw
            case rel => exact ⟨j + 1, by omega, by go_num, hr8'.out, hB8.out⟩
            case measure => simp [intOf]; omega
        · have hji : j = i := by omega
          subst hji
          rw [restB_end] at hrd
          have HRd := hid hrd; clear hrd
          have hjn : ¬ (j : Int) < n := by omega
          have hjm : ¬ (j : Int) < m := by omega
          go_wp2_with fail
          refine (Done_r _ rb _ _ HRd.out).mono ?_
          rintro e w9 ⟨rfl, hw9⟩
          subst hw9
          go_wp2_with (go_at_call 22; go_in)
          refine (knows1_any _).mono ?_
          rintro e wk ⟨rfl, hbk⟩
          have HKz := hid (below_then hb.out hbk)
          clear hbk
          go_wp2_with fail
          go_ret
          exact ⟨rfl, HKz.out⟩
theorem WireBack_row (A : Option Addr) (n c : Nat) (zs : List Int) (B : Option Addr) (m d : Nat) (ss : List ByteArray) (M : Option Addr) (p q : Nat) (more : List UInt8) (w : World)
    (h1 : IsI .i64 w A n c zs) (_ : n * 8 ≤ 140737488351232) (h2 : IsS w B m d ss) (h3 : IsB w M p q more) (hp : p ≤ 140737488351232) :
    Calls Try.prog 12 #[.slice A n c, .slice B m d, .slice M p q] w fun e w' => e = .returned (.bool true) ∧ Below w.heap.size w w' :=
  WireBack_walk A n c zs B m d ss M p q more w h1 h2 h3 hp
end Go.Proofs.Ytcociocgoiofgaa
