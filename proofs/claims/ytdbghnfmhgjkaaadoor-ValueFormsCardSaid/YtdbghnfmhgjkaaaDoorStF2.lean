/- The document's stamps: number, Parse. -/
import Derived.Test.YtdbghnfmhgjkaaaDoorPureS
import Derived.Test.YtdbghnfmhgjkaaaDoorShS
import Derived.Test.YtdbghnfmhgjkaaaDoorVaA
import Derived.Test.YtdbghnfmhgjkaaaDoorReg
namespace Go.Proofs.YtdbghnfmhgjkaaaDoor
open Go.RowKit Go.Dio
set_option linter.unusedVariables false
set_option linter.unusedSimpArgs false

theorem dv_take {l : List UInt8} {i : Nat} (h : i < l.length) : dv (l.take (i + 1)) = dv (l.take i) * 10 + (l[i].toNat - 48) := by
  rw [List.take_succ_eq_append_getElem h, dv_snoc]
theorem dv_take_lt {l : List UInt8} {i : Nat} (h : i < l.length) (hl : l.length ≤ 15) (ha : (l.take i).all isD = true) : dv (l.take i) < 100000000000000 := by
  have h1 := dv_lt _ ha
  have h2 : 10 ^ (l.take i).length ≤ 10 ^ 14 := Nat.pow_le_pow_right (by omega) (by rw [List.length_take]; omega)
  omega
theorem all_take {l : List UInt8} {i : Nat} (h : i < l.length) : (l.take (i + 1)).all isD = ((l.take i).all isD && isD l[i]) := by
  rw [List.take_succ_eq_append_getElem h, List.all_append]; simp
theorem rnum_go {l : List UInt8} (h0 : 0 < l.length) (h1 : l.length ≤ 15) (h2 : ¬ (1 < l.length ∧ l.head? = some 48)) : rnum l = if l.all isD = true then (dv l : Int) else -1 := by
  unfold rnum
  rw [if_neg]
  rintro (h | h | h)
  · omega
  · omega
  · exact h2 h
theorem get_data (s : ByteArray) (i : Nat) (h : i < s.size) : s[i] = s.data.toList[i]'(by rw [Array.length_toList]; exact h) := rfl
theorem head48 (s : ByteArray) (h : 0 < s.size) : (s.data.toList.head? = some 48) ↔ s[0].toNat = 48 := by
  have hl : 0 < s.data.toList.length := by rw [Array.length_toList]; exact h
  rw [List.head?_eq_getElem?, List.getElem?_eq_getElem hl, Option.some.injEq, get_data s 0 h]
  constructor
  · intro e; rw [e]; rfl
  · intro e; exact UInt8.toNat_inj.1 (by rw [e]; rfl)

set_option maxRecDepth 100000 in
set_option maxHeartbeats 1000000 in
theorem number2_any (s : ByteArray) (w : World) (hs : s.size ≤ 9223372036854775807) :
    Calls Tryd.prog 88 #[.string s] w fun e w' => e = .returned (.int .i64 (rnum s.data.toList)) ∧ w = w' := by
  have hlen : s.data.toList.length = s.size := by rw [Array.length_toList]; rfl
  by_cases c0 : s.size < 1
  · have F := hid (show rnum s.data.toList = -1 by unfold rnum; rw [if_pos (by omega)])
    clear hlen
    go_enter Tryd.func88, Tryd.ntmps88
    go_wp2_with fail
    go_ret
    rw [F.out]; exact ⟨rfl, rfl⟩
  by_cases c1 : 15 < s.size
  · have F := hid (show rnum s.data.toList = -1 by unfold rnum; rw [if_pos (by omega)])
    clear hlen
    go_enter Tryd.func88, Tryd.ntmps88
    go_wp2_with fail
    go_ret
    rw [F.out]; exact ⟨rfl, rfl⟩
  have hpos : 0 < s.size := by omega
  have h48 := head48 s hpos
  by_cases c2 : 1 < s.size ∧ s[0].toNat = 48
  · have F := hid (show rnum s.data.toList = -1 by unfold rnum; rw [if_pos (.inr (.inr ⟨by omega, h48.2 c2.2⟩))])
    obtain ⟨c2a, c2b⟩ := c2
    have hb : ((s[0].toNat : Int) == 48) = true := by rw [c2b]; rfl
    clear hlen h48
    go_enter Tryd.func88, Tryd.ntmps88
    go_wp2_with fail
    go_ret
    rw [F.out]; exact ⟨rfl, rfl⟩
  have F := hid (rnum_go (l := s.data.toList) (by omega) (by omega) (by rw [h48, hlen]; exact c2))
  have hz : 1 < s.size → ((s[0].toNat : Int) == 48) = false := fun h => by
    simp only [beq_eq_false_iff_ne]
    intro e; exact c2 ⟨h, by omega⟩
  clear c2 h48
  have HLEN := hid hlen
  clear hlen
  by_cases c3 : 1 < s.size
  all_goals
    try have hz' := hz c3
    clear hz
    go_enter Tryd.func88, Tryd.ntmps88
    go_wp2_with fail
    go_loopw [3, 4] (fun v3 v4 wr => ∃ i : Nat, i ≤ s.size ∧ v4 = .int .i64 i ∧ v3 = .int .i64 (dv (s.data.toList.take i)) ∧ (s.data.toList.take i).all isD = true ∧ w = wr) (fun _ v4 _ => s.size - (intOf v4).toNat)
    case atStart => exact ⟨0, by omega, rfl, rfl, rfl, rfl⟩
    case round =>
      obtain ⟨i, hi, rfl, rfl, ha, rfl⟩ := hrel
      have HA := hid ha
      clear ha
      try clear hz'
      by_cases hlt : i < s.size
      · have hl : i < s.data.toList.length := by rw [HLEN.out]; exact hlt
        have hD := dv_take hl
        have hA := all_take hl
        have hB := dv_take_lt hl (by rw [HLEN.out]; omega) HA.out
        rw [← get_data s i hlt] at hD hA
        rw [HA.out, Bool.true_and] at hA
        have HD := hid hD; have HA2 := hid hA
        have hmem : s[i] ∈ s.data.toList := by rw [get_data s i hlt]; exact List.getElem_mem _
        have HN := hid (fun h : isD s[i] = false => show rnum s.data.toList = -1 by
          rw [F.out, if_neg]
          intro h2
          rw [List.all_eq_true] at h2
          rw [h2 _ hmem] at h
          cases h)
        clear hD hA hmem
        generalize dv (s.data.toList.take i) = d at *
        by_cases h1 : s[i].toNat < 48
        · go_wp2_with fail
          go_ret
          exact ⟨by rw [HN.out (by simp [isD]; omega)]; rfl, rfl⟩
        · by_cases h2 : 57 < s[i].toNat
          · go_wp2_with fail
            go_ret
            exact ⟨by rw [HN.out (by simp [isD]; omega)]; rfl, rfl⟩
          · go_wp2_with fail
            refine ⟨⟨i + 1, by omega, by go_num, by rw [HD.out]; go_num, by rw [HA2.out]; simp [isD]; omega, trivial⟩, ?_⟩
            simp [intOf]; omega
      · have hin : i = s.size := by omega
        subst hin
        have hF := hid (show rnum s.data.toList = (dv (s.data.toList.take s.size) : Int) by
          rw [F.out, ← HLEN.out, List.take_length]
          have := HA.out
          rw [← HLEN.out, List.take_length] at this
          rw [if_pos this])
        go_wp2_with fail
        go_ret
        exact ⟨by rw [hF.out]; rfl, rfl⟩

theorem idx_ge (l : List UInt8) (c : UInt8) : -1 ≤ Lib.indexByte l c := by
  induction l with
  | nil => simp [Lib.indexByte]
  | cons a t ih =>
    unfold Lib.indexByte
    split
    · omega
    · split
      · omega
      · omega
/-- Where a scan that met none comes. -/
theorem idx_scan {l : List UInt8} {c : UInt8} {i : Nat} (h : ∀ k, k < i → l[k]? ≠ some c) (hi : l[i]? = some c) : Lib.indexByte l c = (i : Int) := by
  have hge := idx_ge l c
  by_cases hn : Lib.indexByte l c = -1
  · exact absurd hi (Lib.indexByte_none hn i)
  · obtain ⟨h1, h2⟩ := Lib.indexByte_some (l := l) (c := c) (o := (Lib.indexByte l c).toNat) (by omega)
    by_cases a : (Lib.indexByte l c).toNat < i
    · exact absurd h1 (h _ a)
    · by_cases b : i < (Lib.indexByte l c).toNat
      · exact absurd hi (h2 _ b)
      · omega
theorem idx_none {l : List UInt8} {c : UInt8} (h : ∀ k, k < l.length → l[k]? ≠ some c) : Lib.indexByte l c = -1 := by
  have hge := idx_ge l c
  by_cases hn : Lib.indexByte l c = -1
  · exact hn
  · obtain ⟨h1, h2⟩ := Lib.indexByte_some (l := l) (c := c) (o := (Lib.indexByte l c).toNat) (by omega)
    exact absurd h1 (h _ (List.getElem?_eq_some_iff.1 h1).1)

set_option maxRecDepth 100000 in
set_option maxHeartbeats 1000000 in
theorem rParse2_any (s : ByteArray) (w : World) (hs : s.size ≤ 9223372036854775806) :
    Calls Tryd.prog 43 #[.string s] w fun e w' => e = .returned (.tuple #[stv (rSP s.data.toList).1.1 (rSP s.data.toList).1.2, .bool (rSP s.data.toList).2]) ∧ Below w.heap.size w w' := by
  have hlen : s.data.toList.length = s.size := by rw [Array.length_toList]; rfl
  have HLEN := hid hlen
  clear hlen
  go_enter Tryd.func43, Tryd.ntmps43
  go_wp2_with fail
  go_loopw [4] (fun v4 wr => ∃ i : Nat, i ≤ s.size ∧ v4 = .int .i64 i ∧ (∀ k, k < i → s.data.toList[k]? ≠ some 64) ∧ wr = w.alloc (so 0 0)) (fun v4 _ => s.size - (intOf v4).toNat)
  case atStart => exact ⟨0, by omega, rfl, fun k hk => absurd hk (by omega), rfl⟩
  case round =>
    obtain ⟨i, hi, rfl, hj, rfl⟩ := hrel
    have HJ := hid hj
    have S0 := hid (SAt.new w 0 0 _ rfl)
    have H0 := hid (below_alloc1 w (so 0 0))
    clear hj
    by_cases hlt : i < s.size
    · have hl : i < s.data.toList.length := by rw [HLEN.out]; exact hlt
      have hg : s.data.toList[i]? = some s[i] := by rw [get_data s i hlt]; exact List.getElem?_eq_getElem hl
      have HG := hid hg
      clear hg
      by_cases h1 : s[i].toNat = 64
      · have hc : s[i] = 64 := UInt8.toNat_inj.1 (by rw [h1]; rfl)
        have hidx := idx_scan HJ.out (by rw [HG.out, hc])
        have HR := hid (rSP_at hidx)
        have HIDX := hid hidx
        have hb : ((s[i].toNat : Int) == 64) = true := by rw [h1]; rfl
        have E1 := hid (show (s.extract 0 i).data.toList = s.data.toList.take i by rw [extract_mk, mkS_toList, List.drop_zero, Nat.sub_zero])
        have E2 := hid (show (s.extract (i + 1) s.size).data.toList = s.data.toList.drop (i + 1) by rw [extract_mk, mkS_toList, List.take_of_length_le (by rw [List.length_drop, HLEN.out]; exact Nat.le_refl _)])
        clear h1 hc hidx
        have n1 := fun w => number2_any (s.extract 0 i) w (by simp [ByteArray.size_extract]; omega)
        have n2 := fun w => number2_any (s.extract (i + 1) s.size) w (by simp [ByteArray.size_extract]; omega)
        rw [E1.out] at n1
        rw [E2.out] at n2
        have HN1 := hid n1; have HN2 := hid n2
        clear n1 n2 E1 E2
        generalize rnum (s.data.toList.take i) = x at *
        generalize rnum (s.data.toList.drop (i + 1)) = y at *
        have H1 := hid (below_alloc2 w (so 0 0) (so x y)).drew
        have S1 := hid (((SAt.new w 0 0 _ rfl).below (below_alloc1 _ (so x y))).drew)
        have X1 := hid (SAt.new (w.alloc (so 0 0)) x y (w.heap.size + 1) (by simp)).drew
        have hw : IntKind.i64.wrap ((i : Int) + 1) = (i : Int) + 1 := by simp only [IntKind.wrap_i64]; omega
        go_wp2_with fail
        refine wp_region_held_drew (S := fun _ => True) (by kernel_rfl) trivial (fun hHeld => ?_)
        refine takeL 0 (v := ?_) rfl (by kernel_rfl) (by kernel_rfl) (by kernel_rfl) (fun _ _ _ h => h) (by rfl) ?_ (by assumption) ?_
        case' refine_2 => (intro w hSw; (try dsimp only at hSw); go_simp; try with_reducible rfl)
        try simp only [Act.put, List.setIfInBounds_toArray, List.set_cons_zero, List.set_cons_succ]
        refine takeL 1 (v := ?_) rfl (by kernel_rfl) (by kernel_rfl) (by kernel_rfl) (fun _ _ _ h => h) (by rfl) ?_ (by assumption) ?_
        case' refine_2 => (intro w hSw; (try dsimp only at hSw); go_simp; try with_reducible rfl)
        try simp only [Act.put, List.setIfInBounds_toArray, List.set_cons_zero, List.set_cons_succ]
        refine takeL 2 (v := ?_) rfl (by kernel_rfl) (by kernel_rfl) (by kernel_rfl) (fun _ _ _ h => h) (by rfl) ?_ (by assumption) ?_
        case' refine_2 => (intro w hSw; (try dsimp only at hSw); go_simp; try with_reducible rfl)
        try simp only [Act.put, List.setIfInBounds_toArray, List.set_cons_zero, List.set_cons_succ]
        refine takeL 4 (v := ?_) rfl (by kernel_rfl) (by kernel_rfl) (by kernel_rfl) (fun _ _ _ h => h) (by rfl) ?_ (by assumption) ?_
        case' refine_2 => (intro w hSw; (try dsimp only at hSw); go_simp; try with_reducible rfl)
        try simp only [Act.put, List.setIfInBounds_toArray, List.set_cons_zero, List.set_cons_succ]
        refine takeL 5 (v := ?_) rfl (by kernel_rfl) (by kernel_rfl) (by kernel_rfl) (fun _ _ _ h => h) (by rfl) ?_ (by assumption) ?_
        case' refine_2 => (intro w hSw; (try dsimp only at hSw); go_simp; try with_reducible rfl)
        try simp only [Act.put, List.setIfInBounds_toArray, List.set_cons_zero, List.set_cons_succ]
        refine takeL 6 (v := ?_) rfl (by kernel_rfl) (by kernel_rfl) (by kernel_rfl) (fun _ _ _ h => h) (by rfl) ?_ (by assumption) ?_
        case' refine_2 => (intro w hSw; (try dsimp only at hSw); go_simp; try with_reducible rfl)
        try simp only [Act.put, List.setIfInBounds_toArray, List.set_cons_zero, List.set_cons_succ]
        refine takeL 7 (v := .string (s.extract (i + 1) s.size)) rfl (by kernel_rfl) (by kernel_rfl) (by kernel_rfl) (fun _ _ _ h => h) (by rfl) ?_ (by assumption) ?_
        · intro w hSw
          go_simp
          try rw [show ((i : Int) + 1).toNat = i + 1 by omega]
          try (intro h; exfalso; have := h (by omega); omega)
        try simp only [Act.put, List.setIfInBounds_toArray, List.set_cons_zero, List.set_cons_succ]
        refine duoL 3 10 rfl rfl (by kernel_rfl) (fun K hK => ?_) (fun K hK => ?_)
        · go_simp
          go_at_call 88
          refine (HN1.out _).mono ?_
          rintro e w' ⟨rfl, rfl⟩
          go_wp2_with fail
          refine hK.out _ _ trivial (fun hHeld => ?_)
          clear hK K
          refine duoL 8 10 rfl rfl (by kernel_rfl) (fun K hK => ?_) (fun K hK => ?_)
          · go_simp
            go_at_call 88
            refine (HN2.out _).mono ?_
            rintro e w' ⟨rfl, rfl⟩
            go_wp2_with fail
            refine hK.out _ _ trivial (fun hHeld => ?_)
            clear hK K
            refine takeL 9 (v := ?_) rfl (by kernel_rfl) (by kernel_rfl) (by kernel_rfl) (fun _ _ _ h => h) (by rfl) ?_ (by assumption) ?_
            case' refine_2 => (intro w hSw; (try dsimp only at hSw); go_simp; try with_reducible rfl)
            try simp only [Act.put, List.setIfInBounds_toArray, List.set_cons_zero, List.set_cons_succ]
            refine soloL 10 rfl (by kernel_rfl) (fun K hK => ?_)
            go_simp
            refine hK.out _ _ trivial (fun hHeld => ?_)
            clear hK K
            refine soloL 11 rfl (by kernel_rfl) (fun K hK => ?_)
            go_simp
            refine hK.out _ _ trivial (fun hHeld => ?_)
            clear hK K
            refine wpAnyH_done (by kernel_rfl) ?_ _
            go_wp2_with fail
            refine (rRight2_any x y _).mono ?_
            rcases hsr : sright x y with _ | _
            all_goals
              have HSR := hid hsr
              rintro e w4 ⟨rfl, hb⟩
              have H4 := hid (below_then H1.out hb)
              have S4 := hid (S1.out.below hb)
              have X4 := hid (X1.out.below hb)
              clear hb
              have x0 := X4.out.c0; have x1 := X4.out.c1
              have f0 := S4.out.fz 0; have f1 := S4.out.fz 1
              have c0 := S4.out.c0; have c1 := S4.out.c1
              have hl4 := S4.out.lt
            · have EQ2 := hid (HR.out.trans (if_neg (by rw [HSR.out]; simp)))
              go_wp2_with fail
              (try simp only [Exit.inBlock, Exit.then]); refine bodyPost_ret (v := .tuple #[stv 0 0, .bool false]) (by simp [results, show Tryd.f43.results = #[.cell 2 33, .tmp 3] from rfl, go_sem, *]) rfl ?_
              refine ⟨by rw [EQ2.out], ?_⟩
              repeat' first | exact H4.out | refine below_put ?_ _ _ _ (by omega)
            · have EQ2 := hid (HR.out.trans (if_pos HSR.out))
              go_wp2_with fail
              (try simp only [Exit.inBlock, Exit.then]); refine bodyPost_ret (v := .tuple #[stv x y, .bool true]) (by simp [results, show Tryd.f43.results = #[.cell 2 33, .tmp 3] from rfl, go_sem, *]) rfl ?_
              refine ⟨by rw [EQ2.out], ?_⟩
              repeat' first | exact H4.out | refine below_put ?_ _ _ _ (by omega)
          · go_simp
            refine hK.out _ _ trivial (fun hHeld => ?_)
            clear hK K
            refine soloL 8 rfl (by kernel_rfl) (fun K hK => ?_)
            go_simp
            go_at_call 88
            refine (HN2.out _).mono ?_
            rintro e w' ⟨rfl, rfl⟩
            go_wp2_with fail
            refine hK.out _ _ trivial (fun hHeld => ?_)
            clear hK K
            refine takeL 9 (v := ?_) rfl (by kernel_rfl) (by kernel_rfl) (by kernel_rfl) (fun _ _ _ h => h) (by rfl) ?_ (by assumption) ?_
            case' refine_2 => (intro w hSw; (try dsimp only at hSw); go_simp; try with_reducible rfl)
            try simp only [Act.put, List.setIfInBounds_toArray, List.set_cons_zero, List.set_cons_succ]
            refine soloL 11 rfl (by kernel_rfl) (fun K hK => ?_)
            go_simp
            refine hK.out _ _ trivial (fun hHeld => ?_)
            clear hK K
            refine wpAnyH_done (by kernel_rfl) ?_ _
            go_wp2_with fail
            refine (rRight2_any x y _).mono ?_
            rcases hsr : sright x y with _ | _
            all_goals
              have HSR := hid hsr
              rintro e w4 ⟨rfl, hb⟩
              have H4 := hid (below_then H1.out hb)
              have S4 := hid (S1.out.below hb)
              have X4 := hid (X1.out.below hb)
              clear hb
              have x0 := X4.out.c0; have x1 := X4.out.c1
              have f0 := S4.out.fz 0; have f1 := S4.out.fz 1
              have c0 := S4.out.c0; have c1 := S4.out.c1
              have hl4 := S4.out.lt
            · have EQ2 := hid (HR.out.trans (if_neg (by rw [HSR.out]; simp)))
              go_wp2_with fail
              (try simp only [Exit.inBlock, Exit.then]); refine bodyPost_ret (v := .tuple #[stv 0 0, .bool false]) (by simp [results, show Tryd.f43.results = #[.cell 2 33, .tmp 3] from rfl, go_sem, *]) rfl ?_
              refine ⟨by rw [EQ2.out], ?_⟩
              repeat' first | exact H4.out | refine below_put ?_ _ _ _ (by omega)
            · have EQ2 := hid (HR.out.trans (if_pos HSR.out))
              go_wp2_with fail
              (try simp only [Exit.inBlock, Exit.then]); refine bodyPost_ret (v := .tuple #[stv x y, .bool true]) (by simp [results, show Tryd.f43.results = #[.cell 2 33, .tmp 3] from rfl, go_sem, *]) rfl ?_
              refine ⟨by rw [EQ2.out], ?_⟩
              repeat' first | exact H4.out | refine below_put ?_ _ _ _ (by omega)
        · go_simp
          refine hK.out _ _ trivial (fun hHeld => ?_)
          clear hK K
          refine soloL 3 rfl (by kernel_rfl) (fun K hK => ?_)
          go_simp
          go_at_call 88
          refine (HN1.out _).mono ?_
          rintro e w' ⟨rfl, rfl⟩
          go_wp2_with fail
          refine hK.out _ _ trivial (fun hHeld => ?_)
          clear hK K
          refine soloL 8 rfl (by kernel_rfl) (fun K hK => ?_)
          go_simp
          go_at_call 88
          refine (HN2.out _).mono ?_
          rintro e w' ⟨rfl, rfl⟩
          go_wp2_with fail
          refine hK.out _ _ trivial (fun hHeld => ?_)
          clear hK K
          refine takeL 9 (v := ?_) rfl (by kernel_rfl) (by kernel_rfl) (by kernel_rfl) (fun _ _ _ h => h) (by rfl) ?_ (by assumption) ?_
          case' refine_2 => (intro w hSw; (try dsimp only at hSw); go_simp; try with_reducible rfl)
          try simp only [Act.put, List.setIfInBounds_toArray, List.set_cons_zero, List.set_cons_succ]
          refine soloL 11 rfl (by kernel_rfl) (fun K hK => ?_)
          go_simp
          refine hK.out _ _ trivial (fun hHeld => ?_)
          clear hK K
          refine wpAnyH_done (by kernel_rfl) ?_ _
          go_wp2_with fail
          refine (rRight2_any x y _).mono ?_
          rcases hsr : sright x y with _ | _
          all_goals
            have HSR := hid hsr
            rintro e w4 ⟨rfl, hb⟩
            have H4 := hid (below_then H1.out hb)
            have S4 := hid (S1.out.below hb)
            have X4 := hid (X1.out.below hb)
            clear hb
            have x0 := X4.out.c0; have x1 := X4.out.c1
            have f0 := S4.out.fz 0; have f1 := S4.out.fz 1
            have c0 := S4.out.c0; have c1 := S4.out.c1
            have hl4 := S4.out.lt
          · have EQ2 := hid (HR.out.trans (if_neg (by rw [HSR.out]; simp)))
            go_wp2_with fail
            (try simp only [Exit.inBlock, Exit.then]); refine bodyPost_ret (v := .tuple #[stv 0 0, .bool false]) (by simp [results, show Tryd.f43.results = #[.cell 2 33, .tmp 3] from rfl, go_sem, *]) rfl ?_
            refine ⟨by rw [EQ2.out], ?_⟩
            repeat' first | exact H4.out | refine below_put ?_ _ _ _ (by omega)
          · have EQ2 := hid (HR.out.trans (if_pos HSR.out))
            go_wp2_with fail
            (try simp only [Exit.inBlock, Exit.then]); refine bodyPost_ret (v := .tuple #[stv x y, .bool true]) (by simp [results, show Tryd.f43.results = #[.cell 2 33, .tmp 3] from rfl, go_sem, *]) rfl ?_
            refine ⟨by rw [EQ2.out], ?_⟩
            repeat' first | exact H4.out | refine below_put ?_ _ _ _ (by omega)
      · have hb : ((s[i].toNat : Int) == 64) = false := by simp only [beq_eq_false_iff_ne]; omega
        have hne : s[i] ≠ 64 := fun e => h1 (by rw [e]; rfl)
        have HJ2 := hid (show ∀ k, k < i + 1 → s.data.toList[k]? ≠ some 64 from fun k hk => by
          by_cases e : k = i
          · subst e; rw [HG.out]; simpa using hne
          · exact HJ.out k (by omega))
        clear h1 hne
        go_wp2_with fail
        refine ⟨⟨i + 1, by omega, by go_num, HJ2.out, trivial⟩, ?_⟩
        simp [intOf]; omega
    · have hin : i = s.size := by omega
      subst hin
      have HR := hid (rSP_none (idx_none (l := s.data.toList) (c := 64) (by rw [HLEN.out]; exact HJ.out)))
      have f0 := S0.out.fz 0; have f1 := S0.out.fz 1
      have c0 := S0.out.c0; have c1 := S0.out.c1
      go_wp2_with fail
      (try simp only [Exit.inBlock, Exit.then]); refine bodyPost_ret (v := .tuple #[stv 0 0, .bool false]) (by simp [results, show Tryd.f43.results = #[.cell 2 33, .tmp 3] from rfl, go_sem, *]) rfl ?_
      refine ⟨by rw [HR.out], ?_⟩
      repeat' first | exact H0.out | refine below_put ?_ _ _ _ (by omega)
end Go.Proofs.YtdbghnfmhgjkaaaDoor
