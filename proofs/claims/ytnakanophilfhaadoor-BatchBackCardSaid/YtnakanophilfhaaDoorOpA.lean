/- Layer 7: the small calls: parts, Node, Place, a key, num, mark, fits. -/
import Derived.Test.YtnakanophilfhaaDoorPureO
import Derived.Test.YtnakanophilfhaaDoorInR
namespace Go.Proofs.YtnakanophilfhaaDoor
open Go.RowKit Go.Dio
set_option linter.unusedVariables false
set_option linter.unusedSimpArgs false

theorem num7_any (k : Int) (w : World) : Calls Tryd.prog 14 #[.int .i64 k] w fun e w' => e = .returned (.int .i64 k) ∧ w = w' := by
  go_enter Tryd.func14, Tryd.ntmps14
  go_wp2_with fail
  go_ret
  exact ⟨rfl, rfl⟩
theorem fits_any (a b c : Bool) (w : World) : Calls Tryd.prog 76 #[.bool a, .bool b, .bool c] w fun e w' => e = .returned (.bool (fits a b c)) ∧ w = w' := by
  rcases a with _ | _ <;> rcases b with _ | _ <;> rcases c with _ | _
  all_goals
    go_enter Tryd.func76, Tryd.ntmps76
    go_wp2_with fail
    go_ret
    exact ⟨rfl, rfl⟩
theorem kinds (k : Int) : k = 1 ∨ k = 2 ∨ k = 3 ∨ k = 4 ∨ k = 5 ∨ k = 6 ∨ ((k == 1) = false ∧ (k == 2) = false ∧ (k == 3) = false ∧ (k == 4) = false ∧ (k == 5) = false ∧ (k == 6) = false) := by
  simp only [beq_eq_false_iff_ne]; omega
theorem parts_none {k : Int} (h : (k == 1) = false ∧ (k == 2) = false ∧ (k == 3) = false ∧ (k == 4) = false ∧ (k == 5) = false ∧ (k == 6) = false) :
    pNode k = false ∧ pRef k = false ∧ pKey k = false ∧ pPath k = false ∧ pProp k = false ∧ pOn k = false := by
  simp only [beq_eq_false_iff_ne] at h
  simp only [pNode, pRef, pKey, pPath, pProp, pOn, decide_eq_false_iff_not]
  omega
def partsV (k : Int) : Value := .tuple #[.bool (pNode k), .bool (pRef k), .bool (pKey k), .bool (pPath k), .bool (pProp k), .bool (pOn k)]
set_option maxRecDepth 100000 in
set_option maxHeartbeats 2000000 in
theorem parts_any (k : Int) (w : World) : Calls Tryd.prog 48 #[.int .i64 k] w fun e w' => e = .returned (partsV k) ∧ w = w' := by
  have go : ∀ (b1 b2 b3 b4 b5 b6 : Bool), partsV k = .tuple #[.bool b1, .bool b2, .bool b3, .bool b4, .bool b5, .bool b6] → True := fun _ _ _ _ _ _ _ => trivial
  clear go
  rcases kinds k with rfl | rfl | rfl | rfl | rfl | rfl | h
  case inr.inr.inr.inr.inr.inr =>
    obtain ⟨q1, q2, q3, q4, q5, q6⟩ := parts_none h
    have F := hid (show partsV k = .tuple #[.bool false, .bool false, .bool false, .bool false, .bool false, .bool false] by unfold partsV; rw [q1, q2, q3, q4, q5, q6])
    obtain ⟨p1, p2, p3, p4, p5, p6⟩ := h
    clear q1 q2 q3 q4 q5 q6
    go_enter Tryd.func48, Tryd.ntmps48
    go_wp2_with fail
    (try simp only [Exit.inBlock, Exit.then]); refine bodyPost_ret (v := .tuple #[.bool false, .bool false, .bool false, .bool false, .bool false, .bool false]) (by simp [results, show Tryd.f48.results = #[.tmp 2, .tmp 3, .tmp 4, .tmp 5, .tmp 6, .tmp 7] from rfl, go_sem, *]) rfl ?_
    rw [F.out]; exact ⟨rfl, rfl⟩
  all_goals
    go_enter Tryd.func48, Tryd.ntmps48
    go_wp2_with fail
  · (try simp only [Exit.inBlock, Exit.then]); refine bodyPost_ret (v := .tuple #[.bool false, .bool true, .bool true, .bool false, .bool false, .bool false]) (by simp [results, show Tryd.f48.results = #[.tmp 2, .tmp 3, .tmp 4, .tmp 5, .tmp 6, .tmp 7] from rfl, go_sem, *]) rfl ?_
    exact ⟨rfl, rfl⟩
  · (try simp only [Exit.inBlock, Exit.then]); refine bodyPost_ret (v := .tuple #[.bool true, .bool true, .bool true, .bool false, .bool false, .bool false]) (by simp [results, show Tryd.f48.results = #[.tmp 2, .tmp 3, .tmp 4, .tmp 5, .tmp 6, .tmp 7] from rfl, go_sem, *]) rfl ?_
    exact ⟨rfl, rfl⟩
  · (try simp only [Exit.inBlock, Exit.then]); refine bodyPost_ret (v := .tuple #[.bool true, .bool false, .bool false, .bool false, .bool true, .bool false]) (by simp [results, show Tryd.f48.results = #[.tmp 2, .tmp 3, .tmp 4, .tmp 5, .tmp 6, .tmp 7] from rfl, go_sem, *]) rfl ?_
    exact ⟨rfl, rfl⟩
  · (try simp only [Exit.inBlock, Exit.then]); refine bodyPost_ret (v := .tuple #[.bool true, .bool false, .bool false, .bool false, .bool false, .bool true]) (by simp [results, show Tryd.f48.results = #[.tmp 2, .tmp 3, .tmp 4, .tmp 5, .tmp 6, .tmp 7] from rfl, go_sem, *]) rfl ?_
    exact ⟨rfl, rfl⟩
  · (try simp only [Exit.inBlock, Exit.then]); refine bodyPost_ret (v := .tuple #[.bool true, .bool true, .bool false, .bool false, .bool false, .bool false]) (by simp [results, show Tryd.f48.results = #[.tmp 2, .tmp 3, .tmp 4, .tmp 5, .tmp 6, .tmp 7] from rfl, go_sem, *]) rfl ?_
    exact ⟨rfl, rfl⟩
  · (try simp only [Exit.inBlock, Exit.then]); refine bodyPost_ret (v := .tuple #[.bool true, .bool false, .bool false, .bool true, .bool true, .bool false]) (by simp [results, show Tryd.f48.results = #[.tmp 2, .tmp 3, .tmp 4, .tmp 5, .tmp 6, .tmp 7] from rfl, go_sem, *]) rfl ?_
    exact ⟨rfl, rfl⟩

theorem Node_any (t r : Int) (w : World) : Calls Tryd.prog 30 #[stv t r] w fun e w' => e = .returned (.bool (sNode t r)) ∧ Below w.heap.size w w' := by
  have S0 := hid (SAt.new w t r _ rfl)
  rcases hr : sright t r with _ | _
  · have F := hid (show sNode t r = false by unfold sNode; rw [hr]; rfl)
    have HR := hid hr
    clear hr
    go_enter Tryd.func30, Tryd.ntmps30
    go_wp2_with fail
    refine (Right2_any t r _).mono ?_
    rw [HR.out]
    rintro e w1 ⟨rfl, hb⟩
    have H1 := hid (below_then (below_alloc1 _ _) hb)
    clear hb
    go_wp2_with fail
    go_ret
    rw [F.out]; exact ⟨rfl, H1.out⟩
  · have F := hid (show sNode t r = decide (0 < t) by unfold sNode; rw [hr]; rfl)
    have HR := hid hr
    clear hr
    go_enter Tryd.func30, Tryd.ntmps30
    go_wp2_with fail
    refine (Right2_any t r _).mono ?_
    rw [HR.out]
    rintro e w1 ⟨rfl, hb⟩
    have H1 := hid (below_then (below_alloc1 _ _) hb)
    have S1 := hid (S0.out.below hb)
    have c0 := S1.out.c0
    clear hb
    go_wp2_with fail
    go_ret
    rw [F.out]; exact ⟨rfl, H1.out⟩
theorem notNode_any (t r : Int) (w : World) : Calls Tryd.prog 78 #[stv t r] w fun e w' => e = .returned (.bool (!sNode t r)) ∧ Below w.heap.size w w' := by
  go_enter Tryd.func78, Tryd.ntmps78
  go_wp2_with fail
  refine (Node_any t r _).mono ?_
  rintro e w1 ⟨rfl, hb⟩
  have H1 := hid (below_then (below_alloc1 _ _) hb)
  clear hb
  go_wp2_with fail
  go_ret
  exact ⟨rfl, H1.out⟩

/-- The two stamps that stand for no node lie in their variables. -/
structure RootsAt (w : World) : Prop where
  c00 : w.cell? ⟨0, 0, none⟩ = some (.int .i64 0)
  c01 : w.cell? ⟨0, 1, none⟩ = some (.int .i64 0)
  c10 : w.cell? ⟨1, 0, none⟩ = some (.int .i64 0)
  c11 : w.cell? ⟨1, 1, none⟩ = some (.int .i64 1)
theorem RootsAt.below {w w' : World} (h : RootsAt w) (hb : Below w.heap.size w w') : RootsAt w' :=
  ⟨by rw [hb.cell (World.block_lt_of_cell? _ _ h.c00)]; exact h.c00, by rw [hb.cell (World.block_lt_of_cell? _ _ h.c01)]; exact h.c01, by rw [hb.cell (World.block_lt_of_cell? _ _ h.c10)]; exact h.c10, by rw [hb.cell (World.block_lt_of_cell? _ _ h.c11)]; exact h.c11⟩

set_option maxRecDepth 100000 in
set_option maxHeartbeats 2000000 in
theorem Place_any (t r : Int) (w : World) (hg : RootsAt w) : Calls Tryd.prog 32 #[stv t r] w fun e w' => e = .returned (.bool (sPlace t r)) ∧ Below w.heap.size w w' := by
  have S0 := hid (SAt.new w t r _ rfl)
  have G0 := hid (hg.below (below_alloc1 w (so t r)))
  clear hg
  rcases hr : sNode t r with _ | _
  · have F := hid (show sPlace t r = (isRoot t r || decide (t = 0 ∧ r = 1)) by unfold sPlace; rw [hr]; rfl)
    have HR := hid hr
    clear hr
    go_enter Tryd.func32, Tryd.ntmps32
    go_wp2_with fail
    refine (Node_any t r _).mono ?_
    rw [HR.out]
    rintro e w1 ⟨rfl, hb⟩
    have H1 := hid (below_then (below_alloc1 _ _) hb)
    have S1 := hid (S0.out.below hb)
    have G1 := hid (G0.out.below hb)
    clear hb
    have c0 := S1.out.c0; have c1 := S1.out.c1
    have g0 := G1.out.c00; have g1 := G1.out.c01; have g2 := G1.out.c10; have g3 := G1.out.c11
    go_wp2_with fail
    all_goals
      go_ret
      refine ⟨?_, H1.out⟩
      rw [F.out]
      first
      | (simp [isRoot, *]; done)
      | (simp [isRoot]; omega)
      | (simp_all [isRoot]; done)
  · have F := hid (show sPlace t r = true by unfold sPlace; rw [hr]; rfl)
    have HR := hid hr
    clear hr
    go_enter Tryd.func32, Tryd.ntmps32
    go_wp2_with fail
    refine (Node_any t r _).mono ?_
    rw [HR.out]
    rintro e w1 ⟨rfl, hb⟩
    have H1 := hid (below_then (below_alloc1 _ _) hb)
    clear hb
    go_wp2_with fail
    go_ret
    rw [F.out]; exact ⟨rfl, H1.out⟩

theorem keyR_any (s : ByteArray) (w : World) (hs : s.size ≤ 9223372036854775807) : Calls Tryd.prog 79 #[.string s] w fun e w' => e = .returned (.bool (keyR s)) ∧ w = w' := by
  have hlen : s.data.toList.length = s.size := by rw [Array.length_toList]; rfl
  have hemp : s.toList.isEmpty = decide (s.size = 0) := by
    rw [ByteArray.toList_eq]
    rcases hx : s.data.toList with _ | ⟨a, l⟩
    · rw [hx] at hlen; simp at hlen; simp [← hlen]
    · rw [hx] at hlen; simp at hlen
      have : ¬ s.size = 0 := by omega
      simp [this]
  by_cases h0 : s.size = 0
  · have F := hid (show keyR s = false by
      have : s.data.toList = [] := List.eq_nil_of_length_eq_zero (by omega)
      simp [keyR, this])
    have he : s.toList.isEmpty = true := by rw [hemp]; simp [h0]
    clear hemp hlen
    go_enter Tryd.func79, Tryd.ntmps79
    go_wp2_with fail
    go_ret
    rw [F.out]; exact ⟨rfl, rfl⟩
  have he : s.toList.isEmpty = false := by rw [hemp]; simp [h0]
  have hne : s.data.toList ≠ [] := fun e => by rw [e] at hlen; simp at hlen; omega
  by_cases h1 : s.size ≤ 24
  · have hpos : 0 < s.size := by omega
    have hlast : s.data.toList.getLast? = some s[s.size - 1] := by
      rw [List.getLast?_eq_getElem?, hlen, List.getElem?_eq_getElem (by omega)]; rfl
    have F := hid (show keyR s = !((s[s.size - 1].toNat : Int) == 0) by
      unfold keyR
      rw [hlast, Bool.eq_iff_iff]
      simp only [decide_eq_true_eq, Bool.not_eq_true', beq_eq_false_iff_ne]
      constructor
      · rintro ⟨_, _, h3⟩ e
        exact h3 (congrArg some (UInt8.toNat_inj.1 (by simp; omega)))
      · intro h3
        refine ⟨hne, h1, fun e => h3 ?_⟩
        have := Option.some.inj e
        rw [this]; rfl)
    clear hemp hlast hne
    go_enter Tryd.func79, Tryd.ntmps79
    go_wp2_with fail
    go_ret
    rw [F.out]; exact ⟨rfl, rfl⟩
  · have F := hid (show keyR s = false by simp [keyR]; intro _ h; omega)
    clear hemp hlen
    go_enter Tryd.func79, Tryd.ntmps79
    go_wp2_with fail
    go_ret
    rw [F.out]; exact ⟨rfl, rfl⟩

/-- num, mark: without the error. -/
theorem opnum_any (n : Nat) (w : World) (hn : n < 281474976710656) : Calls Tryd.prog 49 #[.int .i64 n] w (OutB 5 w (numB n)) := by
  go_enter Tryd.func49, Tryd.ntmps49
  go_wp2_with fail
  refine (Num_ok n _ hn).mono ?_
  rintro e w1 ⟨v1, rfl, ho, hb⟩
  have HO := hid ho; have HB := hid hb
  clear ho hb
  go_wp2_with fail
  go_ret
  exact ⟨_, rfl, HO.out, HB.out⟩
theorem opmark_any (t r : Int) (w : World) (hs : sright t r = true) : Calls Tryd.prog 50 #[stv t r] w (OutB 5 w (stB t r)) := by
  go_enter Tryd.func50, Tryd.ntmps50
  go_wp2_with fail
  refine (SPut_ok t r _ hs).mono ?_
  rintro e w1 ⟨v1, rfl, ho, hb⟩
  have HO := hid (ho.lower (below_alloc1 w (so t r)).size); have HB := hid (below_then (below_alloc1 w (so t r)) hb)
  clear ho hb
  go_wp2_with fail
  go_ret
  exact ⟨_, rfl, HO.out, HB.out⟩
end Go.Proofs.YtnakanophilfhaaDoor
