/- StampOrder: the walk. -/
import Derived.Test.YtdbghnfmhgjkaaaDoorStC
import Derived.Test.YtdbghnfmhgjkaaaDoorShS
namespace Go.Proofs.YtdbghnfmhgjkaaaDoor
open Go.RowKit Go.Dio
set_option linter.unusedVariables false
set_option linter.unusedSimpArgs false

theorem smaxN_in (f : Nat → Int × Int) : ∀ n, 0 < n → (∃ i, i < n ∧ smaxN f n = f i) ∧ ∀ j, j < n → 0 ≤ scmp (smaxN f n).1 (smaxN f n).2 (f j).1 (f j).2
  | 0, h => absurd h (by omega)
  | n + 1, _ => by
    have hself : ∀ a b : Int, scmp a b a b = 0 := fun a b => by unfold scmp; rw [if_pos ⟨rfl, rfl⟩]
    by_cases hn : n = 0
    · subst hn
      refine ⟨⟨0, by omega, rfl⟩, fun j hj => ?_⟩
      obtain rfl : j = 0 := by omega
      rw [show smaxN f 1 = f 0 from rfl, hself]
      exact Int.le_refl _
    · obtain ⟨⟨i, hi, h1⟩, h2⟩ := smaxN_in f n (by omega)
      by_cases hg : 0 < scmp (f n).1 (f n).2 (smaxN f n).1 (smaxN f n).2
      · have e : smaxN f (n + 1) = f n := by rw [smaxN, if_pos (.inr hg)]
        rw [e]
        refine ⟨⟨n, by omega, rfl⟩, fun j hj => ?_⟩
        by_cases hjn : j = n
        · subst hjn; rw [hself]; exact Int.le_refl _
        · have := h2 j (by omega)
          generalize smaxN f n = m at *
          revert hg this
          unfold scmp
          repeat' split
          all_goals omega
      · have e : smaxN f (n + 1) = smaxN f n := by rw [smaxN, if_neg (by rintro (h | h); exact hn h; exact hg h)]
        rw [e]
        refine ⟨⟨i, by omega, h1⟩, fun j hj => ?_⟩
        by_cases hjn : j = n
        · subst hjn
          generalize smaxN f j = m at *
          revert hg
          unfold scmp
          repeat' split
          all_goals omega
        · exact h2 j (by omega)
theorem smax3 (a1 a2 b1 b2 c1 c2 : Int) : ∃ t r, smaxN (fun i => if i = 0 then (a1, a2) else if i = 1 then (b1, b2) else (c1, c2)) 3 = (t, r) ∧ (t = a1 ∧ r = a2 ∨ t = b1 ∧ r = b2 ∨ t = c1 ∧ r = c2) ∧ 0 ≤ scmp t r a1 a2 ∧ 0 ≤ scmp t r b1 b2 ∧ 0 ≤ scmp t r c1 c2 := by
  obtain ⟨⟨i, hi, h1⟩, h2⟩ := smaxN_in (fun i => if i = 0 then (a1, a2) else if i = 1 then (b1, b2) else (c1, c2)) 3 (by omega)
  have g0 := h2 0 (by omega)
  have g1 := h2 1 (by omega)
  have g2 := h2 2 (by omega)
  clear h2
  generalize smaxN (fun i => if i = 0 then (a1, a2) else if i = 1 then (b1, b2) else (c1, c2)) 3 = m at *
  obtain ⟨t, r⟩ := m
  refine ⟨t, r, rfl, ?_, by simpa using g0, by simpa using g1, by simpa using g2⟩
  have : i = 0 ∨ i = 1 ∨ i = 2 := by omega
  rcases this with rfl | rfl | rfl
  · exact .inl (by simpa using h1)
  · exact .inr (.inl (by simpa using h1))
  · exact .inr (.inr (by simpa using h1))
/-- A stamp lies in block b. -/
def StAt (w : World) (b : Nat) (t r : Int) : Prop := w.cell? ⟨b, 0, none⟩ = some (.int .i64 t) ∧ w.cell? ⟨b, 1, none⟩ = some (.int .i64 r)
theorem StAt.below {w w' : World} {b : Nat} {t r : Int} (h : StAt w b t r) (hb : Below w.heap.size w w') : StAt w' b t r :=
  ⟨by rw [hb.cell (p := ⟨b, 0, none⟩) (World.block_lt_of_cell? _ _ h.1)]; exact h.1, by rw [hb.cell (p := ⟨b, 1, none⟩) (World.block_lt_of_cell? _ _ h.2)]; exact h.2⟩

theorem scmp_neg (a b c d : Int) : scmp c d a b = -scmp a b c d := by
  unfold scmp
  repeat' split
  all_goals omega
theorem scmp_zero (a b c d : Int) : scmp a b c d = 0 ↔ a = c ∧ b = d := by
  unfold scmp
  repeat' split
  all_goals omega
theorem scmp_trans (a1 a2 b1 b2 c1 c2 : Int) : ¬ ((scmp a1 a2 b1 b2 ≤ 0 ∧ scmp b1 b2 c1 c2 ≤ 0 ∧ 0 < scmp a1 a2 c1 c2) ∨ (scmp a1 a2 b1 b2 < 0 ∧ scmp b1 b2 c1 c2 ≤ 0 ∧ 0 ≤ scmp a1 a2 c1 c2)) := by
  unfold scmp
  repeat' split
  all_goals omega

theorem StAt.new (w : World) (t r : Int) (b : Nat) (hb : w.heap.size = b) : StAt (w.alloc (Obj.cells #[Value.int IntKind.i64 t, Value.int IntKind.i64 r] 33)) b t r := by
  subst hb
  exact ⟨cell_of (new_at _ _) 0 rfl, cell_of (new_at _ _) 1 rfl⟩

set_option maxRecDepth 100000 in
set_option maxHeartbeats 4000000 in
theorem StampOrder_walk (a1 a2 b1 b2 c1 c2 : Int) (w : World) :
    Calls Tryd.prog 6 #[stv a1 a2, stv b1 b2, stv c1 c2] w fun e w' => e = .returned (.bool true) ∧ Below w.heap.size w w' := by
  obtain ⟨V, hV⟩ : ∃ V, V = ((w.alloc (Obj.cells #[Value.int IntKind.i64 a1, Value.int IntKind.i64 a2] 33)).alloc (Obj.cells #[Value.int IntKind.i64 b1, Value.int IntKind.i64 b2] 33)).alloc (Obj.cells #[Value.int IntKind.i64 c1, Value.int IntKind.i64 c2] 33) := ⟨_, rfl⟩
  have hA : StAt V w.heap.size a1 a2 := by rw [hV]; exact ((StAt.new w a1 a2 _ rfl).below (below_alloc1 _ _)).below (below_alloc1 _ _)
  have hB : StAt V (w.heap.size + 1) b1 b2 := by rw [hV]; exact (StAt.new _ b1 b2 _ (by simp)).below (below_alloc1 _ _)
  have hC : StAt V (w.heap.size + 1 + 1) c1 c2 := by rw [hV]; exact StAt.new _ c1 c2 _ (by simp)
  have HV := hid (show Below w.heap.size w V by rw [hV]; exact below_new (below_new (below_alloc1 w _) _) _)
  have HVE := hid hV; clear hV
  go_enter Tryd.func6, Tryd.ntmps6
  go_wp2_with fail
  rw [← HVE.out]
  refine (Compare_any a1 a2 b1 b2 V).mono ?_
  rintro e w1 ⟨rfl, hb⟩
  have A1 := hA.below hb; have B1 := hB.below hb; have C1 := hC.below hb
  have H1 := hid (below_then HV.out hb)
  clear hb
  obtain ⟨q0, q1⟩ := A1; obtain ⟨q2, q3⟩ := B1; obtain ⟨q4, q5⟩ := C1
  go_wp2_with fail
  refine (Compare_any b1 b2 c1 c2 _).mono ?_
  rintro e w2 ⟨rfl, hb⟩
  have A2 := StAt.below ⟨q0, q1⟩ hb; have B2 := StAt.below ⟨q2, q3⟩ hb; have C2 := StAt.below ⟨q4, q5⟩ hb
  have H2 := hid (below_then H1.out hb)
  clear hb q0 q1 q2 q3 q4 q5
  obtain ⟨q0, q1⟩ := A2; obtain ⟨q2, q3⟩ := B2; obtain ⟨q4, q5⟩ := C2
  go_wp2_with fail
  refine (Compare_any a1 a2 c1 c2 _).mono ?_
  rintro e w3 ⟨rfl, hb⟩
  have A3 := StAt.below ⟨q0, q1⟩ hb; have B3 := StAt.below ⟨q2, q3⟩ hb; have C3 := StAt.below ⟨q4, q5⟩ hb
  have H3 := hid (below_then H2.out hb)
  clear hb q0 q1 q2 q3 q4 q5
  obtain ⟨q0, q1⟩ := A3; obtain ⟨q2, q3⟩ := B3; obtain ⟨q4, q5⟩ := C3
  have hT := scmp_trans a1 a2 b1 b2 c1 c2
  generalize scmp a1 a2 c1 c2 = z at *
  generalize scmp b1 b2 c1 c2 = y at *
  generalize hx : scmp a1 a2 b1 b2 = x at *
  have HX := hid hx; clear hx
  have hT' : ¬ (x ≤ 0 ∧ y ≤ 0 ∧ 0 < z) ∧ ¬ (x < 0 ∧ y ≤ 0 ∧ 0 ≤ z) := ⟨fun h => hT (.inl h), fun h => hT (.inr h)⟩
  clear hT
  go_wp2_with fail
  all_goals
    have A4 := StAt.below ⟨q0, q1⟩ (below_alloc1 w3 (Obj.cells #[Value.int IntKind.i64 a1, Value.int IntKind.i64 a2, Value.int IntKind.i64 b1, Value.int IntKind.i64 b2, Value.int IntKind.i64 c1, Value.int IntKind.i64 c2] 33))
    have B4 := StAt.below ⟨q2, q3⟩ (below_alloc1 w3 (Obj.cells #[Value.int IntKind.i64 a1, Value.int IntKind.i64 a2, Value.int IntKind.i64 b1, Value.int IntKind.i64 b2, Value.int IntKind.i64 c1, Value.int IntKind.i64 c2] 33))
    have C4 := StAt.below ⟨q4, q5⟩ (below_alloc1 w3 (Obj.cells #[Value.int IntKind.i64 a1, Value.int IntKind.i64 a2, Value.int IntKind.i64 b1, Value.int IntKind.i64 b2, Value.int IntKind.i64 c1, Value.int IntKind.i64 c2] 33))
    have H4 := hid (below_new H3.out (Obj.cells #[Value.int IntKind.i64 a1, Value.int IntKind.i64 a2, Value.int IntKind.i64 b1, Value.int IntKind.i64 b2, Value.int IntKind.i64 c1, Value.int IntKind.i64 c2] 33))
    clear q0 q1 q2 q3 q4 q5
    refine (Max_any w3.heap.size 0 3 3 (fun i => if i = 0 then (a1, a2) else if i = 1 then (b1, b2) else (c1, c2)) _ (Nat.le_refl _) (by omega) ?c1).mono ?_
    case c1 =>
      intro i hi
      have : i = 0 ∨ i = 1 ∨ i = 2 := by omega
      rcases this with rfl | rfl | rfl
      · exact ⟨cell_of (new_at _ _) 0 rfl, cell_of (new_at _ _) 1 rfl⟩
      · exact ⟨cell_of (new_at _ _) 2 rfl, cell_of (new_at _ _) 3 rfl⟩
      · exact ⟨cell_of (new_at _ _) 4 rfl, cell_of (new_at _ _) 5 rfl⟩
    rintro e w4 ⟨rfl, hb⟩
    have A5 := A4.below hb; have B5 := B4.below hb; have C5 := C4.below hb
    have H5 := hid (below_then H4.out hb)
    clear hb A4 B4 C4
    obtain ⟨q0, q1⟩ := A5; obtain ⟨q2, q3⟩ := B5; obtain ⟨q4, q5⟩ := C5
    have hM : ∃ t r, smaxN (fun i => if i = 0 then (a1, a2) else if i = 1 then (b1, b2) else (c1, c2)) 3 = (t, r) ∧ (t = a1 ∧ r = a2 ∨ t = b1 ∧ r = b2 ∨ t = c1 ∧ r = c2) ∧ 0 ≤ scmp t r a1 a2 ∧ 0 ≤ scmp t r b1 b2 ∧ 0 ≤ scmp t r c1 c2 := smax3 a1 a2 b1 b2 c1 c2
    obtain ⟨t, r, hm, hin, hma, hmb, hmc⟩ := hM
    rw [hm]
    clear hm
    dsimp only
    have hxb : -1 ≤ x ∧ x ≤ 1 := by rw [← HX.out]; unfold scmp; repeat' split
                                    all_goals omega
    have hx0 : x = 0 ↔ a1 = b1 ∧ a2 = b2 := by rw [← HX.out]; exact scmp_zero _ _ _ _
    have A6 := StAt.below ⟨q0, q1⟩ (below_alloc1 w4 (Obj.cells #[Value.int IntKind.i64 t, Value.int IntKind.i64 r] 33))
    have B6 := StAt.below ⟨q2, q3⟩ (below_alloc1 w4 (Obj.cells #[Value.int IntKind.i64 t, Value.int IntKind.i64 r] 33))
    have C6 := StAt.below ⟨q4, q5⟩ (below_alloc1 w4 (Obj.cells #[Value.int IntKind.i64 t, Value.int IntKind.i64 r] 33))
    have H6 := hid (below_new H5.out (Obj.cells #[Value.int IntKind.i64 t, Value.int IntKind.i64 r] 33))
    have M6 := StAt.new w4 t r _ rfl
    clear q0 q1 q2 q3 q4 q5
    obtain ⟨q0, q1⟩ := A6; obtain ⟨q2, q3⟩ := B6; obtain ⟨q4, q5⟩ := C6; obtain ⟨q6, q7⟩ := M6
    have HM := hid (And.intro hma (And.intro hmb hmc)); clear hma hmb hmc
    go_wp2_with fail
    refine (Compare_any b1 b2 a1 a2 _).mono ?_
    rintro e w5 ⟨rfl, hb⟩
    have A7 := StAt.below ⟨q0, q1⟩ hb; have B7 := StAt.below ⟨q2, q3⟩ hb; have C7 := StAt.below ⟨q4, q5⟩ hb; have M7 := StAt.below ⟨q6, q7⟩ hb
    have H7 := hid (below_then H6.out hb)
    clear hb q0 q1 q2 q3 q4 q5 q6 q7
    obtain ⟨q0, q1⟩ := A7; obtain ⟨q2, q3⟩ := B7; obtain ⟨q4, q5⟩ := C7; obtain ⟨q6, q7⟩ := M7
    have hr : IntKind.i64.wrap (-(scmp b1 b2 a1 a2)) = x := by
      rw [scmp_neg a1 a2 b1 b2, HX.out]; simp only [IntKind.wrap_i64]; omega
    have hr2 : -(scmp b1 b2 a1 a2) = x := by rw [scmp_neg a1 a2 b1 b2, HX.out, Int.neg_neg]
    generalize scmp b1 b2 a1 a2 = x' at *
    generalize w4.alloc (Obj.cells #[Value.int IntKind.i64 t, Value.int IntKind.i64 r] 33) = W4 at *
    go_wp2_with fail
    all_goals
      clear hr hr2 hx0 hxb hT' hA hB hC
      try subst_vars
      obtain ⟨hma, hmb, hmc⟩ := HM.out
      refine (Compare_any t r _ _ _).mono ?_
      rintro e w6 ⟨rfl, hb⟩
      have A8 := StAt.below ⟨q0, q1⟩ hb; have B8 := StAt.below ⟨q2, q3⟩ hb; have C8 := StAt.below ⟨q4, q5⟩ hb; have M8 := StAt.below ⟨q6, q7⟩ hb
      have H8 := hid (below_then H7.out hb)
      clear hb q0 q1 q2 q3 q4 q5 q6 q7 H7
      have H7 := H8; clear H8
      obtain ⟨q0, q1⟩ := A8; obtain ⟨q2, q3⟩ := B8; obtain ⟨q4, q5⟩ := C8; obtain ⟨q6, q7⟩ := M8
      go_wp2_with fail
      refine (Compare_any t r _ _ _).mono ?_
      rintro e w7 ⟨rfl, hb⟩
      have A8 := StAt.below ⟨q0, q1⟩ hb; have B8 := StAt.below ⟨q2, q3⟩ hb; have C8 := StAt.below ⟨q4, q5⟩ hb; have M8 := StAt.below ⟨q6, q7⟩ hb
      have H8 := hid (below_then H7.out hb)
      clear hb q0 q1 q2 q3 q4 q5 q6 q7 H7
      have H7 := H8; clear H8
      obtain ⟨q0, q1⟩ := A8; obtain ⟨q2, q3⟩ := B8; obtain ⟨q4, q5⟩ := C8; obtain ⟨q6, q7⟩ := M8
      go_wp2_with fail
      refine (Compare_any t r _ _ _).mono ?_
      rintro e w8 ⟨rfl, hb⟩
      have A8 := StAt.below ⟨q0, q1⟩ hb; have B8 := StAt.below ⟨q2, q3⟩ hb; have C8 := StAt.below ⟨q4, q5⟩ hb; have M8 := StAt.below ⟨q6, q7⟩ hb
      have H8 := hid (below_then H7.out hb)
      clear hb q0 q1 q2 q3 q4 q5 q6 q7 H7
      have H7 := H8; clear H8
      obtain ⟨q0, q1⟩ := A8; obtain ⟨q2, q3⟩ := B8; obtain ⟨q4, q5⟩ := C8; obtain ⟨q6, q7⟩ := M8
      go_wp2_with fail
    all_goals
      refine (knows2_any _).mono ?_
      rintro e w9 ⟨rfl, hb⟩
      have H8 := hid (below_then H7.out hb)
      clear hb
      go_wp2_with fail
      go_ret
      first
      | exact ⟨rfl, H8.out⟩
      | (refine ⟨?_, H8.out⟩; congr 2; simp; simp_all; done)
      | (exfalso; simp_all; done)
      | (exfalso; omega)
/-- The walk, from what comes in. -/
theorem StampOrder_row (a : Array Value) (x : shStamp.T) (b : Array Value) (y : shStamp.T) (c : Array Value) (z : shStamp.T) (w : World)
    (ha : shStamp.reads w a.toList x) (hb : shStamp.reads w b.toList y) (hc : shStamp.reads w c.toList z) :
    Calls Tryd.prog 6 #[.agg a, .agg b, .agg c] w fun e w' => e = .returned (.bool true) ∧ Below w.heap.size w w' := by
  rw [stamp_cut ha, stamp_cut hb, stamp_cut hc]
  exact StampOrder_walk _ _ _ _ _ _ w
end Go.Proofs.YtdbghnfmhgjkaaaDoor
