/- Layer 3: what the law knows. -/
import Derived.Test.YtdbghnfmhgjkaaaDoorVaG
import Derived.Test.YtdbghnfmhgjkaaaDoorStA
namespace Go.Proofs.YtdbghnfmhgjkaaaDoor
open Go.RowKit Go.Dio
set_option linter.unusedVariables false
set_option linter.unusedSimpArgs false

theorem emp_nil : (⟨#[]⟩ : ByteArray).toList.isEmpty = true := (emp_iff _).2 rfl
theorem vright_22 : vright 2 2 ⟨#[]⟩ = true := by rw [vright_one (.inr rfl)]; decide
set_option maxRecDepth 100000 in
set_option maxHeartbeats 1000000 in
theorem Print3_2f (w : World) : Calls Tryd.prog 63 #[vv 2 2 ⟨#[]⟩] w fun e w' => e = .returned (.string ⟨#[50, 102]⟩) ∧ Below w.heap.size w w' := by
  have VA := hid (VAt.new w 2 2 ⟨#[]⟩ _ rfl)
  go_enter Tryd.func63, Tryd.ntmps63
  go_wp2_with fail
  refine (VRight_any 2 2 ⟨#[]⟩ _ (by decide)).mono ?_
  rw [vright_22]
  rintro e w1 ⟨rfl, hb1⟩
  have H1 := hid (below_then (below_alloc1 _ _) hb1)
  have VA1 := hid (VA.out.below hb1)
  clear hb1
  have a0 := VA1.out.c0; have a1 := VA1.out.c1
  go_wp2_with fail
  refine (Itoa_2 _).mono ?_
  rintro e w2 ⟨rfl, rfl⟩
  go_wp2_with fail
  go_ret
  exact ⟨rfl, H1.out⟩
set_option maxRecDepth 100000 in
set_option maxHeartbeats 1000000 in
theorem Right8_2 (w : World) : Calls Tryd.prog 65 #[.int .i64 6, vv 2 2 ⟨#[]⟩] w fun e w' => e = .returned (.bool true) ∧ Below w.heap.size w w' := by
  have VA := hid (VAt.new w 2 2 ⟨#[]⟩ _ rfl)
  go_enter Tryd.func65, Tryd.ntmps65
  go_wp2_with fail
  refine (VRight_any 2 2 ⟨#[]⟩ _ (by decide)).mono ?_
  rw [vright_22]
  rintro e w1 ⟨rfl, hb1⟩
  have H1 := hid (below_then (below_alloc1 _ _) hb1)
  have VA1 := hid (VA.out.below hb1)
  clear hb1
  have a0 := VA1.out.c0; have a1 := VA1.out.c1
  go_wp2_with fail
  go_ret
  exact ⟨rfl, H1.out⟩
theorem vtimes_k : vtimes 2 32768 ⟨#[]⟩ 2 3 ⟨#[]⟩ = ((2, 2), 0) := by
  have h : vboth 2 32768 ⟨#[]⟩ 2 3 ⟨#[]⟩ = true := by
    rw [vboth, vright_one (.inr rfl), vright_one (.inr rfl)]; decide
  rw [vtimes, if_pos h]
  decide
set_option maxRecDepth 100000 in
set_option maxHeartbeats 1000000 in
theorem knows3_any (w : World) : Calls Tryd.prog 28 #[] w fun e w' => e = .returned (.bool true) ∧ Below w.heap.size w w' := by
  go_enter Tryd.func28, Tryd.ntmps28
  go_wp2_with fail
  refine (Times_any 2 32768 ⟨#[]⟩ 2 3 ⟨#[]⟩ _ (by decide) (by decide)).mono ?_
  rw [vtimes_k]
  rintro e w1 ⟨rfl, hb1⟩
  have H1 := hid (below_new hb1 (vo 2 2 ⟨#[]⟩))
  have VA := hid (VAt.new w1 2 2 ⟨#[]⟩ _ rfl)
  clear hb1
  dsimp only
  go_wp2_with fail
  refine (num3_any 0 _).mono ?_
  rintro e w2 ⟨rfl, rfl⟩
  go_wp2_with fail
  refine (Print3_2f _).mono ?_
  rintro e w2 ⟨rfl, hb⟩
  have H2 := hid (below_then H1.out hb)
  have VA2 := hid (VA.out.below hb)
  clear hb
  have a0 := VA2.out.c0; have a1 := VA2.out.c1; have a2 := VA2.out.c2
  go_wp2_with fail
  refine (VRight_any 2 2 ⟨#[]⟩ _ (by decide)).mono ?_
  rw [vright_22]
  rintro e w3 ⟨rfl, hb⟩
  have H3 := hid (below_then H2.out hb)
  have VA3 := hid (VA2.out.below hb)
  clear hb a0 a1 a2
  have a0 := VA3.out.c0; have a1 := VA3.out.c1; have a2 := VA3.out.c2
  go_wp2_with fail
  refine (Right8_2 _).mono ?_
  rintro e w4 ⟨rfl, hb⟩
  have H4 := hid (below_then H3.out hb)
  clear hb
  go_wp2_with fail
  go_ret
  exact ⟨rfl, H4.out⟩

set_option maxRecDepth 100000 in
set_option maxHeartbeats 1000000 in
theorem ValueTimes_walk (k n : Int) (s : ByteArray) (k' n' : Int) (s' : ByteArray) (w : World) (hs : s.size ≤ 9223372036854775807) (hs' : s'.size ≤ 9223372036854775807) :
    Calls Tryd.prog 7 #[vv k n s, vv k' n' s'] w fun e w' => e = .returned (.bool true) ∧ Below w.heap.size w w' := by
  have VA := hid ((VAt.new w k n s _ rfl).below (below_alloc1 _ (vo k' n' s')))
  have VB := hid (VAt.new (w.alloc (vo k n s)) k' n' s' (w.heap.size + 1) (by simp))
  have HV := hid (below_new (below_alloc1 w (vo k n s)) (vo k' n' s'))
  go_enter Tryd.func7, Tryd.ntmps7
  go_wp2_with fail
  refine (Times_any k n s k' n' s' _ hs hs').mono ?_
  rintro e w1 ⟨rfl, hb1⟩
  rcases hr : vtimes k n s k' n' s' with ⟨⟨x1, x2⟩, x3⟩
  have H1 := hid (below_new (below_then HV.out hb1) (vo x1 x2 ⟨#[]⟩))
  have VA1 := hid ((VA.out.below hb1).below (below_alloc1 _ (vo x1 x2 ⟨#[]⟩)))
  have VB1 := hid ((VB.out.below hb1).below (below_alloc1 _ (vo x1 x2 ⟨#[]⟩)))
  have VX := hid (VAt.new w1 x1 x2 ⟨#[]⟩ _ rfl)
  clear hb1
  have a0 := VA1.out.c0; have a1 := VA1.out.c1; have a2 := VA1.out.c2
  have b0 := VB1.out.c0; have b1 := VB1.out.c1; have b2 := VB1.out.c2
  dsimp only
  go_wp2_with fail
  refine (rTimes_any k n s k' n' s' _ hs hs').mono ?_
  rw [rtimes_eq, hr]
  rintro e w2 ⟨rfl, hb⟩
  have H2 := hid (below_new (below_then H1.out hb) (vo x1 x2 ⟨#[]⟩))
  have VX2 := hid ((VX.out.below hb).below (below_alloc1 _ (vo x1 x2 ⟨#[]⟩)))
  have VY2 := hid (VAt.new w2 x1 x2 ⟨#[]⟩ _ rfl)
  clear hb a0 a1 a2 b0 b1 b2 hr
  have a0 := VX2.out.c0; have a1 := VX2.out.c1; have a2 := VX2.out.c2
  dsimp only
  go_wp2_with fail
  refine (num3_any x3 _).mono ?_
  rintro e w3 ⟨rfl, rfl⟩
  go_wp2_with fail
  refine (knows3_any _).mono ?_
  rintro e w3 ⟨rfl, hb⟩
  have H3 := hid (below_then H2.out hb)
  clear hb
  go_wp2_with fail
  go_ret
  exact ⟨rfl, H3.out⟩
end Go.Proofs.YtdbghnfmhgjkaaaDoor
