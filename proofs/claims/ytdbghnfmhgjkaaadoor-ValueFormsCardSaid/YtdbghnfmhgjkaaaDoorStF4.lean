/- The document's stamps: Compare, Put, Take; rows of stamps. -/
import Derived.Test.YtdbghnfmhgjkaaaDoorSpB
import Derived.Test.YtdbghnfmhgjkaaaDoorDocR2
import Derived.Test.YtdbghnfmhgjkaaaDoorStC
import Derived.Test.YtdbghnfmhgjkaaaDoorShS
import Derived.Test.YtdbghnfmhgjkaaaDoorAp
namespace Go.Proofs.YtdbghnfmhgjkaaaDoor
open Go.RowKit Go.Dio
set_option linter.unusedVariables false
set_option linter.unusedSimpArgs false

theorem SAt.grownR {w w' : World} {b : Nat} {row : Option Nat} {t r : Int} (h : SAt w b t r) (hb : w.grownBy w' row) (hn : ∀ k, row = some k → k ≠ b) : SAt w' b t r := ⟨by rw [hb.block b h.lt (fun e => hn b e.symm rfl)]; exact h.own⟩
theorem rCompare2_any (t r t' r' : Int) (w : World) : Calls Tryd.prog 50 #[stv t r, stv t' r'] w fun e w' => e = .returned (.int .i64 (scmp t r t' r')) ∧ Below w.heap.size w w' := by
  have key : (t = t' ∧ r = r') ∨ (t = t' ∧ r < r') ∨ (t = t' ∧ r' < r) ∨ t < t' ∨ t' < t := by omega
  rcases key with ⟨rfl, rfl⟩ | ⟨rfl, h⟩ | ⟨rfl, h⟩ | h | h
  · have F := hid (show scmp t r t r = 0 by unfold scmp; rw [if_pos ⟨rfl, rfl⟩])
    go_enter Tryd.func50, Tryd.ntmps50
    go_wp2_with fail
    go_ret
    rw [F.out]; exact ⟨rfl, below_alloc2 _ _ _⟩
  · have F := hid (show scmp t r t r' = -1 by unfold scmp; rw [if_neg (fun e => by omega), if_pos (.inr ⟨rfl, h⟩)])
    go_enter Tryd.func50, Tryd.ntmps50
    go_wp2_with fail
    go_ret
    rw [F.out]; exact ⟨rfl, below_alloc2 _ _ _⟩
  · have F := hid (show scmp t r t r' = 1 by unfold scmp; rw [if_neg (fun e => by omega), if_neg (fun e => by omega)])
    go_enter Tryd.func50, Tryd.ntmps50
    go_wp2_with fail
    go_ret
    rw [F.out]; exact ⟨rfl, below_alloc2 _ _ _⟩
  · have F := hid (show scmp t r t' r' = -1 by unfold scmp; rw [if_neg (fun e => by omega), if_pos (.inl h)])
    have hne : (t == t') = false := by simp; omega
    go_enter Tryd.func50, Tryd.ntmps50
    go_wp2_with fail
    go_ret
    rw [F.out]; exact ⟨rfl, below_alloc2 _ _ _⟩
  · have F := hid (show scmp t r t' r' = 1 by unfold scmp; rw [if_neg (fun e => by omega), if_neg (fun e => by omega)])
    have hne : (t == t') = false := by simp; omega
    go_enter Tryd.func50, Tryd.ntmps50
    go_wp2_with fail
    go_ret
    rw [F.out]; exact ⟨rfl, below_alloc2 _ _ _⟩

/-- The document's Put. -/
theorem rPut2_no (t r : Int) (w : World) (hs : sright t r = false) : Calls Tryd.prog 42 #[stv t r] w fun e w' => e = .returned (.slice none 0 0) ∧ Below w.heap.size w w' := by
  go_enter Tryd.func42, Tryd.ntmps42
  go_wp2_with fail
  refine (rRight2_any t r _).mono ?_
  rw [hs]
  rintro e w1 ⟨rfl, hb1⟩
  have H1 := hid (below_then (below_alloc1 _ _) hb1)
  clear hb1
  go_wp2_with fail
  go_ret
  exact ⟨rfl, H1.out⟩
set_option maxRecDepth 100000 in
set_option maxHeartbeats 1000000 in
theorem rPut2_ok (t r : Int) (w : World) (hs : sright t r = true) : Calls Tryd.prog 42 #[stv t r] w (OutB 5 w (stB t r)) := by
  obtain ⟨h0, h1, h2, h3⟩ := sright_bd hs
  obtain ⟨k, rfl⟩ := Int.eq_ofNat_of_zero_le h0
  obtain ⟨m, rfl⟩ := Int.eq_ofNat_of_zero_le h2
  have SA := hid (SAt.new w k m _ rfl)
  go_enter Tryd.func42, Tryd.ntmps42
  go_wp2_with fail
  refine (rRight2_any k m _).mono ?_
  rw [hs]
  rintro e w1 ⟨rfl, hb1⟩
  have H1 := hid (below_then (below_alloc1 _ _) hb1)
  have SA1 := hid (SA.out.below hb1)
  clear hb1
  have a0 := SA1.out.c0; have a1 := SA1.out.c1
  go_wp2_with fail
  refine wp_region_held_drew (S := fun w' => w'.cell? ⟨w.heap.size, 0, none⟩ = some (.int .i64 k) ∧ w'.cell? ⟨w.heap.size, 1, none⟩ = some (.int .i64 m)) (by kernel_rfl) (by exact ⟨a0, a1⟩) (fun hHeld => ?_)
  refine takeL 0 (v := ?_) rfl (by kernel_rfl) (by kernel_rfl) (by kernel_rfl) (fun _ _ _ h => h) (by rfl) ?_ (by assumption) ?_
  case' refine_2 => (intro w hSw; (try dsimp only at hSw); go_simp; try with_reducible rfl)
  try simp only [Act.put, List.setIfInBounds_toArray, List.set_cons_zero, List.set_cons_succ]
  refine takeL 1 (v := ?_) rfl (by kernel_rfl) (by kernel_rfl) (by kernel_rfl) (fun _ _ _ h => h) (by rfl) ?_ (by assumption) ?_
  case' refine_2 => (intro w hSw; (try dsimp only at hSw); go_simp; try with_reducible rfl)
  try simp only [Act.put, List.setIfInBounds_toArray, List.set_cons_zero, List.set_cons_succ]
  refine takeL 3 (v := ?_) rfl (by kernel_rfl) (by kernel_rfl) (by kernel_rfl) (fun _ _ _ h => h) (by rfl) ?_ (by assumption) ?_
  case' refine_2 => (intro w hSw; (try dsimp only at hSw); go_simp; try with_reducible rfl)
  try simp only [Act.put, List.setIfInBounds_toArray, List.set_cons_zero, List.set_cons_succ]
  refine takeL 4 (v := ?_) rfl (by kernel_rfl) (by kernel_rfl) (by kernel_rfl) (fun _ _ _ h => h) (by rfl) ?_ (by assumption) ?_
  case' refine_2 => (intro w hSw; (try dsimp only at hSw); go_simp; try with_reducible rfl)
  try simp only [Act.put, List.setIfInBounds_toArray, List.set_cons_zero, List.set_cons_succ]
  refine soloL 2 rfl (by kernel_rfl) (fun K hK => ?_)
  go_simp
  go_at_call 87
  refine (rNum_ok k _ (by omega)).mono ?_
  rintro e w2 ⟨v1, rfl, ho1, hb2⟩
  have H2 := hid (below_then H1.out.drew hb2)
  have SA2 := hid (SA1.out.drew.below hb2)
  have HO1 := hid (ho1.lower (show w.heap.size + 1 ≤ _ from SA1.out.lt))
  clear hb2 a0 a1 ho1
  go_wp2_with fail
  refine hK.out _ _ ⟨SA2.out.c0, SA2.out.c1⟩ (fun hHeld => ?_)
  clear hK K
  refine soloL 5 rfl (by kernel_rfl) (fun K hK => ?_)
  go_simp
  go_at_call 87
  refine (rNum_ok m _ (by omega)).mono ?_
  rintro e w3 ⟨v2, rfl, ho2, hb3⟩
  obtain ⟨A2, n2, c2, rfl, hI2, -⟩ := ho2.form
  have H3 := hid (below_then H2.out hb3)
  have SA3 := hid (SA2.out.below hb3)
  have HO2 := hid (HO1.out.below hb3)
  have HI2 := hid hI2
  have l1 := numB_le k (by omega)
  have l2 : n2 ≤ 8 := by rw [← hI2.len]; exact numB_le m (by omega)
  clear hb3 ho2 hI2
  go_wp2_with fail
  refine hK.out _ _ ⟨SA3.out.c0, SA3.out.c1⟩ (fun hHeld => ?_)
  clear hK K
  refine soloL 6 rfl (by kernel_rfl) (fun K hK => ?_)
  rw [if_pos (by kernel_rfl)]
  refine wp_append_b (w0 := w3) (w.heap.size + 1) _ _ 55 5 rfl Tryd.underlying55 info_u8 _ n2 (numB k) (numB m) A2 c2 rfl rfl HO2.out HI2.out (Below.refl _ _) SA3.out.lt (by omega) ?_
  intro v4 w4 ho4 hb4 hg4 hat4
  have SA4 := hid (SA3.out.grownR hg4 (fun q hq => by have := owns_base HO2.out q hq; omega))
  have H4 := hid (H3.out.grown hg4 H3.out.size (fun q hq => by have := owns_base HO2.out q hq; omega))
  have HO4 := hid (ho4.lower (show w.heap.size ≤ _ from Nat.le_succ _))
  clear hg4 hat4 hb4 ho4
  refine hK.out _ _ ⟨SA4.out.c0, SA4.out.c1⟩ (fun hHeld => ?_)
  clear hK K
  refine takeL 7 (v := ?_) rfl (by kernel_rfl) (by kernel_rfl) (by kernel_rfl) (fun _ _ _ h => h) (by rfl) ?_ (by assumption) ?_
  case' refine_2 => (intro w hSw; (try dsimp only at hSw); go_simp; try with_reducible rfl)
  try simp only [Act.put, List.setIfInBounds_toArray, List.set_cons_zero, List.set_cons_succ]
  refine wpAnyH_done (by kernel_rfl) ?_ _
  go_wp2_with fail
  go_ret
  refine ⟨_, rfl, ?_, H4.out⟩
  rw [stB, Int.toNat_natCast, Int.toNat_natCast]
  exact HO4.out

/-- A block without bytes may turn. -/
theorem DocAt.other {w w' : World} {base rb b : Nat} {s : Rst} {cs : Array Value} {T : TypeId} {fr : Nat × Nat} (h : DocAt w base rb s) (hs : w.heap[b]? = some (.cells cs T fr)) (hcs : ∀ (i : Nat) (n : Int), cs[i]? ≠ some (.int .u8 n)) (hne : b ≠ rb)
    (hk : ∀ k, k ≠ b → k < w.heap.size → w'.heap[k]? = w.heap[k]?) : DocAt w' base rb s := by
  have hlt := h.lt
  obtain ⟨h1, A, n, c, xs, at_, h2, h3, h4, h5, h6, h7⟩ := h
  refine ⟨h1, A, n, c, xs, at_, by rw [hk rb (fun e => hne e.symm) hlt]; exact h2, ?_, h4, h5, h6, h7⟩
  by_cases hn : bv xs = []
  · exact ⟨h3.len, h3.cap, h3.max, .inl hn⟩
  · refine h3.move fun a ha => ?_
    have hlt2 : a.block < w.heap.size := by subst ha; exact h3.cells.lt hn
    refine hk _ (fun e => ?_) hlt2
    have hpos : 0 < n := by
      rw [← h3.len]
      rcases hs1 : xs with _ | ⟨x, l⟩
      · rw [hs1] at hn; exact absurd rfl hn
      · simp
    obtain ⟨b', o', e', hc⟩ := h3.some hpos
    rw [ha] at e'
    cases e'
    simp only at e
    subst e
    have := hc 0 hpos
    simp only [World.cell?, hs, Nat.add_zero] at this
    exact hcs _ _ this

set_option maxRecDepth 100000 in
set_option maxHeartbeats 1000000 in
theorem rTake2_any (base rb : Nat) (s : Rst) (w : World) (h : DocAt w base rb s) :
    Calls Tryd.prog 45 #[.pointer (some ⟨rb, 0, none⟩)] w (DocOut w base rb (stv (tStamp s).1.1 (tStamp s).1.2) (tStamp s).2) := by
  have hlt := h.lt
  have R0 := hid (h.below (below_alloc1 w (so 0 0)))
  have S0 := hid (SAt.new w 0 0 _ rfl)
  have G0 := hid (grown_alloc (World.grownBy.refl w (some rb)) (so 0 0))
  clear h
  rcases h1 : rUpto 1099511627776 s with ⟨x, s1⟩
  rcases h2 : rUpto 15 s1 with ⟨y, s2⟩
  have HT := hid (show tStamp s = if s2.2 = 0 then ((x, y), s2) else ((0, 0), s2) by simp only [tStamp, h1, h2])
  have H1 := hid h1; have H2 := hid h2
  clear h1 h2
  go_enter Tryd.func45, Tryd.ntmps45
  go_wp2_with fail
  refine (dUpto_any base rb s 1099511627776 _ R0.out).mono ?_
  rw [H1.out]
  rintro e w1 ⟨rfl, hr, hg⟩
  have R1 := hid hr
  have S1 := hid (S0.out.grown hg (by omega))
  have G1 := hid (grown_trans G0.out hg)
  clear hr hg
  dsimp only
  go_wp2_with fail
  refine (dUpto_any base rb s1 15 _ R1.out).mono ?_
  rw [H2.out]
  rintro e w2 ⟨rfl, hr, hg⟩
  have R2 := hid hr
  have S2 := hid (S1.out.grown hg (by omega))
  have G2 := hid (grown_trans G1.out hg)
  have cE := hr.cE
  have f0 := S2.out.fz 0; have f1 := S2.out.fz 1
  have c0 := S2.out.c0; have c1 := S2.out.c1
  have l2 := S2.out.lt
  have HK := hid (fun u1 u2 => (R2.out.other (w' := (w2.setCell ⟨w.heap.size, 0, none⟩ u1).setCell ⟨w.heap.size, 1, none⟩ u2) S2.out.own (so_cells 0 0) (by omega) fun k hk _ => by
    rw [Below.heap_setCell _ ⟨w.heap.size, 1, none⟩ u2 k hk, Below.heap_setCell _ ⟨w.heap.size, 0, none⟩ u1 k hk]))
  clear hr hg
  dsimp only
  by_cases he : s2.2 = 0
  · have HE := hid he
    rw [he] at cE
    clear he
    go_wp2_with fail
    (try simp only [Exit.inBlock, Exit.then]); refine bodyPost_ret (v := stv x y) (by simp [results, show Tryd.f45.results = #[.cell 2 33] from rfl, go_sem, *]) rfl ?_
    rw [HT.out, if_pos HE.out]
    refine ⟨rfl, HK.out _ _, ?_⟩
    repeat' first | exact G2.out | refine grown_put ?_ _ _ _ (.inl (Nat.le_refl _)) | refine grown_alloc ?_ _
  · have HE := hid he
    have he' : (s2.2 == 0) = false := by simp [he]
    have he2 : (s2.2 != 0) = true := by simp [he]
    go_wp2_with fail
    (try simp only [Exit.inBlock, Exit.then]); refine bodyPost_ret (v := stv 0 0) (by simp [results, show Tryd.f45.results = #[.cell 2 33] from rfl, go_sem, *]) rfl ?_
    rw [HT.out, if_neg HE.out]
    refine ⟨rfl, HK.out _ _, ?_⟩
    repeat' first | exact G2.out | refine grown_put ?_ _ _ _ (.inl (Nat.le_refl _)) | refine grown_alloc ?_ _

/-- Stamps' cells, one behind the other. -/
def sv : List (Int × Int) → List Value
  | [] => []
  | p :: l => .int .i64 p.1 :: .int .i64 p.2 :: sv l
theorem sv_length : ∀ l : List (Int × Int), (sv l).length = l.length * 2
  | [] => rfl
  | p :: l => by simp only [sv, List.length_cons, sv_length l]; omega
theorem sv_get : ∀ (l : List (Int × Int)) (i : Nat) (p : Int × Int), l[i]? = some p → (sv l)[i * 2]? = some (.int .i64 p.1) ∧ (sv l)[i * 2 + 1]? = some (.int .i64 p.2)
  | [], i, p, h => by simp at h
  | q :: l, 0, p, h => by simp at h; subst h; exact ⟨rfl, rfl⟩
  | q :: l, i + 1, p, h => by
    have := sv_get l i p (by simpa using h)
    rw [show (i + 1) * 2 = i * 2 + 1 + 1 by omega]
    exact ⟨this.1, this.2⟩
theorem sv_one (l : List (Int × Int)) : ∀ u ∈ sv l, u.oneCell' = true := by
  induction l with
  | nil => intro u h; cases h
  | cons p l ih =>
    intro u h
    rcases List.mem_cons.1 h with rfl | h
    · rfl
    · rcases List.mem_cons.1 h with rfl | h
      · rfl
      · exact ih u h
theorem sv_inv : ∀ (l : List (Int × Int)) (j : Nat) (u : Value), (sv l)[j]? = some u → ∃ i p, l[i]? = some p ∧ (j = i * 2 ∧ u = .int .i64 p.1 ∨ j = i * 2 + 1 ∧ u = .int .i64 p.2)
  | [], j, u, h => by simp [sv] at h
  | p :: l, 0, u, h => by
    have : u = .int .i64 p.1 := by simpa [sv] using h.symm
    exact ⟨0, p, rfl, .inl ⟨rfl, this⟩⟩
  | p :: l, 1, u, h => by
    have : u = .int .i64 p.2 := by simpa [sv] using h.symm
    exact ⟨0, p, rfl, .inr ⟨rfl, this⟩⟩
  | p :: l, j + 2, u, h => by
    obtain ⟨i, q, h1, h2⟩ := sv_inv l j u (by simpa [sv] using h)
    refine ⟨i + 1, q, by simpa using h1, ?_⟩
    rcases h2 with h2 | h2
    · exact .inl ⟨by omega, h2.2⟩
    · exact .inr ⟨by omega, h2.2⟩
/-- Stamps that lie in a slice. -/
structure IsSt (w : World) (A : Option Addr) (n c : Nat) (l : List (Int × Int)) : Prop where
  len : l.length = n
  cap : n ≤ c
  max : c ≤ 9223372036854775807
  cells : CellsAt w A (sv l)
theorem IsSt.below {w w' : World} {A : Option Addr} {n c : Nat} {l : List (Int × Int)} (h : IsSt w A n c l) (hb : Below w.heap.size w w') : IsSt w' A n c l := ⟨h.len, h.cap, h.max, h.cells.below hb⟩
theorem sts_of {w : World} {A : Option Addr} {n c : Nat} {l : (Sh.slice shStamp).T} (h : (Sh.slice shStamp).reads w [.slice A n c] l) : IsSt w A n c (l.map fun x => (x.1, x.2.1)) := by
  obtain ⟨A', n', c', he, hl, hn, hc, hr⟩ := h
  simp only [List.cons.injEq, Value.slice.injEq, and_true] at he
  obtain ⟨rfl, rfl, rfl⟩ := he
  refine ⟨by rw [List.length_map]; exact hl, hn, hc, ?_⟩
  rcases hr with rfl | ⟨b, o, rfl, hr⟩
  · exact .inl rfl
  · refine .inr ⟨b, o, rfl, fun j u hu => ?_⟩
    obtain ⟨i, p, h1, h2⟩ := sv_inv _ j u hu
    rw [List.getElem?_map, Option.map_eq_some_iff] at h1
    obtain ⟨x, hx, rfl⟩ := h1
    obtain ⟨cs, _, h4, h5⟩ := hr i x hx
    have e := (stamp_cells h5).1
    subst e
    have hz : Sh.size shStamp = 2 := rfl
    rw [hz] at h4
    rcases h2 with ⟨rfl, rfl⟩ | ⟨rfl, rfl⟩
    · exact h4 0 _ rfl
    · exact h4 1 _ rfl
/-- .. place by place. -/
theorem IsSt.at_ {w : World} {A : Option Addr} {n c : Nat} {l : List (Int × Int)} (h : IsSt w A n c l) (hn : 0 < n) :
    ∃ b o, A = some ⟨b, o, none⟩ ∧ ∀ i, i < n → w.cell? ⟨b, o + i * 2, none⟩ = some (.int .i64 (l.getD i (0, 0)).1) ∧ w.cell? ⟨b, o + i * 2 + 1, none⟩ = some (.int .i64 (l.getD i (0, 0)).2) := by
  have hl := h.len
  obtain ⟨b, o, e, hc⟩ := h.cells.get (by rw [sv_length]; omega)
  refine ⟨b, o, e, fun i hi => ?_⟩
  have hx : l[i]? = some (l.getD i (0, 0)) := by rw [List.getD_eq_getElem?_getD, List.getElem?_eq_getElem (by omega)]; rfl
  obtain ⟨h1, h2⟩ := sv_get l i _ hx
  exact ⟨hc _ _ h1, hc _ _ h2⟩
/-- The last of a list. -/
def smaxL (l : List (Int × Int)) : Int × Int := smaxN (fun i => l.getD i (0, 0)) l.length

theorem info_st : (Tryd.prog.info? 33).map (fun i => (i.zero, i.size, i.bytes)) = some (some (.agg #[.int .i64 0, .int .i64 0]), 2, 16) := by kernel_rfl
end Go.Proofs.YtdbghnfmhgjkaaaDoor
