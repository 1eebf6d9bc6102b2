/- Layer 3: Add; the walks of ValueSums, ValueOvers. -/
import Derived.Test.YtdbghnfmhgjkaaaDoorVaI
import Derived.Test.YtdbghnfmhgjkaaaDoorVaJ
import Derived.Test.YtdbghnfmhgjkaaaDoorShV
namespace Go.Proofs.YtdbghnfmhgjkaaaDoor
open Go.RowKit Go.Dio
set_option linter.unusedVariables false
set_option linter.unusedSimpArgs false

/-- What 'reckon' answers to Add. -/
theorem reckonA_any (k n : Int) (s : ByteArray) (k' n' : Int) (s' : ByteArray) (w : World) (hs : s.size ≤ 9223372036854775807) (hs' : s'.size ≤ 9223372036854775807) :
    Calls Tryd.prog 70 #[vv k n s, vv k' n' s', .func (.func 79) #[] #[]] w fun e w' => (∃ x1 x2, e = .returned (.tuple #[vv x1 x2 ⟨#[]⟩, .int .i64 (if vboth k n s k' n' s' = true then 0 else 1)])) ∧ Below w.heap.size w w' := by
  rcases hb : vboth k n s k' n' s' with _ | _
  · refine (reckonA_no k n s k' n' s' w hs hs' hb).mono ?_
    rintro e w' ⟨rfl, h⟩
    exact ⟨⟨0, 0, rfl⟩, h⟩
  · refine (reckonA_ok k n s k' n' s' w hs hs' hb).mono ?_
    rintro e w' ⟨⟨m, er, rfl, h1⟩, h⟩
    rcases h1 with ⟨rfl, rfl, _⟩ | ⟨_, h1⟩
    · exact ⟨⟨_, _, rfl⟩, h⟩
    · obtain ⟨hk, _, hn, _⟩ := vboth_kind hb
      have := vabs_le hn
      omega

set_option maxRecDepth 100000 in
set_option maxHeartbeats 2000000 in
theorem Add_any (k n : Int) (s : ByteArray) (k' n' : Int) (s' : ByteArray) (w : World) (hs : s.size ≤ 9223372036854775807) (hs' : s'.size ≤ 9223372036854775807) :
    Calls Tryd.prog 29 #[vv k n s, vv k' n' s'] w fun e w' => e = .returned (vans (vadd k n s k' n' s')) ∧ Below w.heap.size w w' := by
  obtain ⟨V, hV⟩ : ∃ V, V = ((w.alloc (vo k n s)).alloc (vo k' n' s')).alloc (vo 0 0 ⟨#[]⟩) := ⟨_, rfl⟩
  have VA := hid (show VAt V w.heap.size k n s by rw [hV]; exact ((VAt.new w k n s _ rfl).below (below_alloc1 _ _)).below (below_alloc1 _ _))
  have VB := hid (show VAt V (w.heap.size + 1) k' n' s' by rw [hV]; exact (VAt.new _ k' n' s' _ (by simp)).below (below_alloc1 _ _))
  have VR := hid (show VAt V (w.heap.size + 1 + 1) 0 0 ⟨#[]⟩ by rw [hV]; exact VAt.new _ 0 0 _ _ (by simp))
  have HV := hid (show Below w.heap.size w V by rw [hV]; exact below_new (below_new (below_alloc1 w _) _) _)
  have HVE := hid hV; clear hV
  have hve := hid (vadd_eq k n s k' n' s')
  rcases hb : vboth k n s k' n' s' with _ | _
  all_goals
    have HBB := hid hb
    go_enter Tryd.func29, Tryd.ntmps29
    go_wp2_with fail
    rw [← HVE.out]
    refine (reckonA_any k n s k' n' s' V hs hs').mono ?_
    rw [hb]
    rintro e w1 ⟨⟨y1, y2, rfl⟩, hb1⟩
    have H1 := hid (below_new (below_then HV.out hb1) (vo y1 y2 ⟨#[]⟩))
    have VR1 := hid ((VR.out.below hb1).below (below_alloc1 _ (vo y1 y2 ⟨#[]⟩)))
    have VA1 := hid ((VA.out.below hb1).below (below_alloc1 _ (vo y1 y2 ⟨#[]⟩)))
    have VB1 := hid ((VB.out.below hb1).below (below_alloc1 _ (vo y1 y2 ⟨#[]⟩)))
    clear hb1 hb
    obtain ⟨W1, hW1⟩ : ∃ W1, W1 = w1.alloc (vo y1 y2 ⟨#[]⟩) := ⟨_, rfl⟩
    have f0 := VR1.out.fz 0; have f1 := VR1.out.fz 1; have f2 := VR1.out.fz 2
    have r0 := VR1.out.c0; have r1 := VR1.out.c1; have r2 := VR1.out.c2
    have hl := VR1.out.lt
    have hs1 := (VAt.new w1 y1 y2 ⟨#[]⟩ _ rfl).lt
    simp only [if_true, reduceCtorEq, if_false]
  · go_wp2_with fail
    (try simp only [Exit.inBlock, Exit.then]); refine bodyPost_ret (v := .tuple #[vv 0 0 ⟨#[]⟩, .int .i64 1]) (by simp [results, show Tryd.f29.results = #[.cell 4 49, .tmp 5] from rfl, go_sem, *]) rfl ?_
    refine ⟨by rw [hve.out, HBB.out]; rfl, ?_⟩
    repeat' first | exact H1.out | refine below_put ?_ _ _ _ (by omega)
  · obtain ⟨hk, hkk, hn, hn'⟩ := vboth_kind HBB.out
    have HK := hid hk; clear hk hkk
    have a0 := VA1.out.c0; have a1 := VA1.out.c1; have b1 := VB1.out.c1
    clear f0 f1 f2 r0 r1 r2
    go_wp2_with fail
    have VX := hid (VAt.new (w1.alloc (vo y1 y2 ⟨#[]⟩)) k (n + n') ⟨#[]⟩ (w1.heap.size + 1) (by simp))
    have H1' := hid (below_new H1.out (vo k (n + n') ⟨#[]⟩))
    have VR1' := hid (VR1.out.below (below_alloc1 _ (vo k (n + n') ⟨#[]⟩)))
    refine (VRight_any k (n + n') ⟨#[]⟩ _ (by decide)).mono ?_
    rcases hv : vright k (n + n') ⟨#[]⟩ with _ | _
    all_goals
      have HVV := hid hv
      rintro e w2 ⟨rfl, hb2⟩
      have H2 := hid (below_then H1'.out hb2)
      have VR2 := hid (VR1'.out.below hb2)
      have VX2 := hid (VX.out.below hb2)
      clear hb2 hv a0 a1 b1 hs1
      have f0 := VR2.out.fz 0; have f1 := VR2.out.fz 1; have f2 := VR2.out.fz 2
      have r0 := VR2.out.c0; have r1 := VR2.out.c1; have r2 := VR2.out.c2
      have x0 := VX2.out.c0; have x1 := VX2.out.c1; have x2 := VX2.out.c2
      have hl2 := VR2.out.lt
      go_wp2_with fail
    · (try simp only [Exit.inBlock, Exit.then]); refine bodyPost_ret (v := .tuple #[vv 0 0 ⟨#[]⟩, .int .i64 30]) (by simp [results, show Tryd.f29.results = #[.cell 4 49, .tmp 5] from rfl, go_sem, *]) rfl ?_
      refine ⟨by rw [hve.out, HBB.out, if_pos rfl, vanswer, HVV.out]; rfl, ?_⟩
      repeat' first | exact H2.out | refine below_put ?_ _ _ _ (by omega)
    · (try simp only [Exit.inBlock, Exit.then]); refine bodyPost_ret (v := .tuple #[vv k (n + n') ⟨#[]⟩, .int .i64 0]) (by simp [results, show Tryd.f29.results = #[.cell 4 49, .tmp 5] from rfl, go_sem, *]) rfl ?_
      refine ⟨by rw [hve.out, HBB.out, if_pos rfl, vanswer, HVV.out]; rfl, ?_⟩
      repeat' first | exact H2.out | refine below_put ?_ _ _ _ (by omega)
set_option maxRecDepth 100000 in
set_option maxHeartbeats 1000000 in
theorem ValueSums_walk (k n : Int) (s : ByteArray) (k' n' : Int) (s' : ByteArray) (w : World) (hs : s.size ≤ 9223372036854775807) (hs' : s'.size ≤ 9223372036854775807) :
    Calls Tryd.prog 8 #[vv k n s, vv k' n' s'] w fun e w' => e = .returned (.bool true) ∧ Below w.heap.size w w' := by
  have VA := hid ((VAt.new w k n s _ rfl).below (below_alloc1 _ (vo k' n' s')))
  have VB := hid (VAt.new (w.alloc (vo k n s)) k' n' s' (w.heap.size + 1) (by simp))
  have HV := hid (below_new (below_alloc1 w (vo k n s)) (vo k' n' s'))
  go_enter Tryd.func8, Tryd.ntmps8
  go_wp2_with fail
  refine (Add_any k n s k' n' s' _ hs hs').mono ?_
  rintro e w1 ⟨rfl, hb1⟩
  rcases hr : vadd k n s k' n' s' with ⟨⟨x1, x2⟩, x3⟩
  have H1 := hid (below_new (below_then HV.out hb1) (vo x1 x2 ⟨#[]⟩))
  have VA1 := hid ((VA.out.below hb1).below (below_alloc1 _ (vo x1 x2 ⟨#[]⟩)))
  have VB1 := hid ((VB.out.below hb1).below (below_alloc1 _ (vo x1 x2 ⟨#[]⟩)))
  have VX := hid (VAt.new w1 x1 x2 ⟨#[]⟩ _ rfl)
  clear hb1
  have a0 := VA1.out.c0; have a1 := VA1.out.c1; have a2 := VA1.out.c2
  have b0 := VB1.out.c0; have b1 := VB1.out.c1; have b2 := VB1.out.c2
  dsimp only
  go_wp2_with fail
  refine (rAdd_any k n s k' n' s' _ hs hs').mono ?_
  rw [hr]
  rintro e w2 ⟨rfl, hb⟩
  have H2 := hid (below_new (below_then H1.out hb) (vo x1 x2 ⟨#[]⟩))
  have VX2 := hid ((VX.out.below hb).below (below_alloc1 _ (vo x1 x2 ⟨#[]⟩)))
  have VY2 := hid (VAt.new w2 x1 x2 ⟨#[]⟩ _ rfl)
  clear hb a0 a1 a2 b0 b1 b2 hr
  have a0 := VX2.out.c0; have a1 := VX2.out.c1; have a2 := VX2.out.c2
  dsimp only
  go_wp2_with fail
  refine (num3_any x3 _).mono ?_
  rintro e w3 ⟨rfl, rfl⟩
  go_wp2_with fail
  refine (knows3_any _).mono ?_
  rintro e w3 ⟨rfl, hb⟩
  have H3 := hid (below_then H2.out hb)
  clear hb
  go_wp2_with fail
  go_ret
  exact ⟨rfl, H3.out⟩
theorem ValueSums_row (a : Array Value) (x : shValue.T) (b : Array Value) (y : shValue.T) (w : World) (ha : shValue.reads w a.toList x) (hb : shValue.reads w b.toList y) :
    Calls Tryd.prog 8 #[.agg a, .agg b] w fun e w' => e = .returned (.bool true) ∧ Below w.heap.size w w' := by
  rw [value_cut ha, value_cut hb]
  exact ValueSums_walk _ _ _ _ _ _ w (value_cells ha).2.2.2 (value_cells hb).2.2.2
set_option maxRecDepth 100000 in
set_option maxHeartbeats 1000000 in
theorem ValueOvers_walk (k n : Int) (s : ByteArray) (k' n' : Int) (s' : ByteArray) (w : World) (hs : s.size ≤ 9223372036854775807) (hs' : s'.size ≤ 9223372036854775807) :
    Calls Tryd.prog 9 #[vv k n s, vv k' n' s'] w fun e w' => e = .returned (.bool true) ∧ Below w.heap.size w w' := by
  have VA := hid ((VAt.new w k n s _ rfl).below (below_alloc1 _ (vo k' n' s')))
  have VB := hid (VAt.new (w.alloc (vo k n s)) k' n' s' (w.heap.size + 1) (by simp))
  have HV := hid (below_new (below_alloc1 w (vo k n s)) (vo k' n' s'))
  go_enter Tryd.func9, Tryd.ntmps9
  go_wp2_with fail
  refine (Over_any k n s k' n' s' _ hs hs').mono ?_
  rintro e w1 ⟨rfl, hb1⟩
  rcases hr : vover k n s k' n' s' with ⟨⟨x1, x2⟩, x3⟩
  have H1 := hid (below_new (below_then HV.out hb1) (vo x1 x2 ⟨#[]⟩))
  have VA1 := hid ((VA.out.below hb1).below (below_alloc1 _ (vo x1 x2 ⟨#[]⟩)))
  have VB1 := hid ((VB.out.below hb1).below (below_alloc1 _ (vo x1 x2 ⟨#[]⟩)))
  have VX := hid (VAt.new w1 x1 x2 ⟨#[]⟩ _ rfl)
  clear hb1
  have a0 := VA1.out.c0; have a1 := VA1.out.c1; have a2 := VA1.out.c2
  have b0 := VB1.out.c0; have b1 := VB1.out.c1; have b2 := VB1.out.c2
  dsimp only
  go_wp2_with fail
  refine (rOver_any k n s k' n' s' _ hs hs').mono ?_
  rw [hr]
  rintro e w2 ⟨rfl, hb⟩
  have H2 := hid (below_new (below_then H1.out hb) (vo x1 x2 ⟨#[]⟩))
  have VX2 := hid ((VX.out.below hb).below (below_alloc1 _ (vo x1 x2 ⟨#[]⟩)))
  have VY2 := hid (VAt.new w2 x1 x2 ⟨#[]⟩ _ rfl)
  clear hb a0 a1 a2 b0 b1 b2 hr
  have a0 := VX2.out.c0; have a1 := VX2.out.c1; have a2 := VX2.out.c2
  dsimp only
  go_wp2_with fail
  refine (num3_any x3 _).mono ?_
  rintro e w3 ⟨rfl, rfl⟩
  go_wp2_with fail
  refine (knows3_any _).mono ?_
  rintro e w3 ⟨rfl, hb⟩
  have H3 := hid (below_then H2.out hb)
  clear hb
  go_wp2_with fail
  go_ret
  exact ⟨rfl, H3.out⟩
theorem ValueOvers_row (a : Array Value) (x : shValue.T) (b : Array Value) (y : shValue.T) (w : World) (ha : shValue.reads w a.toList x) (hb : shValue.reads w b.toList y) :
    Calls Tryd.prog 9 #[.agg a, .agg b] w fun e w' => e = .returned (.bool true) ∧ Below w.heap.size w w' := by
  rw [value_cut ha, value_cut hb]
  exact ValueOvers_walk _ _ _ _ _ _ w (value_cells ha).2.2.2 (value_cells hb).2.2.2
end Go.Proofs.YtdbghnfmhgjkaaaDoor
