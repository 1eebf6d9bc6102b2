/- Layer 2: stamps as bytes, and back. -/
import Derived.Test.YtnakanophilfhaaDoorStA
import Derived.Test.YtnakanophilfhaaDoorRdrB2
namespace Go.Proofs.YtnakanophilfhaaDoor
open Go.RowKit Go.Dio
set_option linter.unusedVariables false
set_option linter.unusedSimpArgs false

/-- The cells of a stamp. -/
@[reducible] def so (t r : Int) : Obj := .cells #[.int .i64 t, .int .i64 r] 23
/-- A stamp lies in block b. -/
structure SAt (w : World) (b : Nat) (t r : Int) : Prop where
  own : w.heap[b]? = some (so t r)
theorem SAt.lt {w : World} {b : Nat} {t r : Int} (h : SAt w b t r) : b < w.heap.size := (Array.getElem?_eq_some_iff.1 h.own).1
theorem SAt.below {w w' : World} {b : Nat} {t r : Int} (h : SAt w b t r) (hb : Below w.heap.size w w') : SAt w' b t r := ⟨by rw [hb.block b h.lt]; exact h.own⟩
theorem SAt.grown {w w' : World} {b rb : Nat} {t r : Int} (h : SAt w b t r) (hb : w.grownBy w' (some rb)) (hn : b ≠ rb) : SAt w' b t r := ⟨by rw [hb.block b h.lt (fun e => hn (by cases e; rfl))]; exact h.own⟩
theorem SAt.c0 {w : World} {b : Nat} {t r : Int} (h : SAt w b t r) : w.cell? ⟨b, 0, none⟩ = some (.int .i64 t) := cell_of h.own 0 rfl
theorem SAt.c1 {w : World} {b : Nat} {t r : Int} (h : SAt w b t r) : w.cell? ⟨b, 1, none⟩ = some (.int .i64 r) := cell_of h.own 1 rfl
theorem SAt.fz {w : World} {b : Nat} {t r : Int} (h : SAt w b t r) (i : Nat) : w.frozen? ⟨b, i, none⟩ = false := by simp [World.frozen?, h.own]
theorem SAt.new (w : World) (t r : Int) (b : Nat) (hb : w.heap.size = b) : SAt (w.alloc (so t r)) b t r := by subst hb; exact ⟨new_at _ _⟩
theorem SAt.drew {w : World} {b : Nat} {t r : Int} (h : SAt w b t r) : SAt w.drew b t r := ⟨h.own⟩
theorem RdrAt.drew {w : World} {base rb : Nat} {s : Rst} (h : RdrAt w base rb s) : RdrAt w.drew base rb s := h.move fun _ _ _ => rfl

/-- A block without bytes may turn. -/
theorem RdrAt.other {w w' : World} {base rb b : Nat} {s : Rst} {cs : Array Value} {T : TypeId} {fr : Nat × Nat} (h : RdrAt w base rb s) (hs : w.heap[b]? = some (.cells cs T fr)) (hcs : ∀ (i : Nat) (n : Int), cs[i]? ≠ some (.int .u8 n)) (hne : b ≠ rb)
    (hk : ∀ k, k ≠ b → k < w.heap.size → w'.heap[k]? = w.heap[k]?) : RdrAt w' base rb s := by
  have hlt := h.lt
  obtain ⟨h1, A, n, c, h2, h3, h4⟩ := h
  refine ⟨h1, A, n, c, by rw [hk rb (fun e => hne e.symm) hlt]; exact h2, ?_, h4⟩
  by_cases hn : bv s.1 = []
  · exact ⟨h3.len, h3.cap, h3.max, .inl hn⟩
  · refine h3.move fun a ha => ?_
    have hlt2 : a.block < w.heap.size := by subst ha; exact h3.cells.lt hn
    refine hk _ (fun e => ?_) hlt2
    have hpos : 0 < n := by
      rw [← h3.len]
      rcases hs1 : s.1 with _ | ⟨x, l⟩
      · rw [hs1] at hn; exact absurd rfl hn
      · simp
    obtain ⟨b', o', e', hc⟩ := h3.some hpos
    rw [ha] at e'
    cases e'
    simp only at e
    subst e
    have := hc 0 hpos
    simp only [World.cell?, hs, Nat.add_zero] at this
    exact hcs _ _ this
theorem so_cells (t r : Int) (i : Nat) (n : Int) : (#[Value.int .i64 t, .int .i64 r])[i]? ≠ some (.int .u8 n) := by
  match i with
  | 0 => simp
  | 1 => simp
  | i + 2 => simp

/-- A stamp's bytes. -/
def stB (t r : Int) : List UInt8 := numB t.toNat ++ numB r.toNat
theorem sright_bd {t r : Int} (h : sright t r = true) : 0 ≤ t ∧ t ≤ 1099511627776 ∧ 0 ≤ r ∧ r < 16 := by simpa [sright] using h

theorem SPut_no (t r : Int) (w : World) (hs : sright t r = false) : Calls Tryd.prog 91 #[stv t r] w fun e w' => e = .returned (.tuple #[.slice none 0 0, .int .i64 1]) ∧ Below w.heap.size w w' := by
  go_enter Tryd.func91, Tryd.ntmps91
  go_wp2_with fail
  refine (Right2_any t r _).mono ?_
  rw [hs]
  rintro e w1 ⟨rfl, hb1⟩
  have H1 := hid (below_then (below_alloc1 _ _) hb1)
  clear hb1
  go_wp2_with fail
  go_ret2
  exact ⟨rfl, H1.out⟩
set_option maxRecDepth 100000 in
set_option maxHeartbeats 1000000 in
theorem SPut_ok (t r : Int) (w : World) (hs : sright t r = true) : Calls Tryd.prog 91 #[stv t r] w (OutB2 5 w (stB t r) 0) := by
  obtain ⟨h0, h1, h2, h3⟩ := sright_bd hs
  obtain ⟨k, rfl⟩ := Int.eq_ofNat_of_zero_le h0
  obtain ⟨m, rfl⟩ := Int.eq_ofNat_of_zero_le h2
  have SA := hid (SAt.new w k m _ rfl)
  go_enter Tryd.func91, Tryd.ntmps91
  go_wp2_with fail
  refine (Right2_any k m _).mono ?_
  rw [hs]
  rintro e w1 ⟨rfl, hb1⟩
  have H1 := hid (below_then (below_alloc1 _ _) hb1)
  have SA1 := hid (SA.out.below hb1)
  clear hb1
  have a0 := SA1.out.c0
  go_wp2_with fail
  refine (Num_ok k _ (by omega)).mono ?_
  rintro e w2 ⟨v1, rfl, ho1, hb2⟩
  have H2 := hid (below_then H1.out hb2)
  have SA2 := hid (SA1.out.below hb2)
  have HO1 := hid (ho1.lower H1.out.size)
  clear hb2 a0 ho1
  have a1 := SA2.out.c1
  go_wp2_with fail
  refine (Num_ok m _ (by omega)).mono ?_
  rintro e w3 ⟨v2, rfl, ho2, hb3⟩
  obtain ⟨A2, n2, c2, rfl, hI2, -⟩ := ho2.form
  have H3 := hid (below_then H2.out hb3)
  have HO2 := hid (HO1.out.below hb3)
  have HI2 := hid hI2
  have l1 := numB_le k (by omega)
  have l2 : n2 ≤ 8 := by rw [← hI2.len]; exact numB_le m (by omega)
  clear hb3 a1 ho2 hI2
  go_wp2_with (at_builtin; refine wpList_append_b (w0 := w) w.heap.size rfl _ _ 31 5 rfl Tryd.underlying31 info_u8 _ n2 (numB k) (numB m) A2 c2 rfl rfl HO2.out HI2.out H3.out H3.out.size (by omega) ?_)
  intro v4 w4 ho4 hb4 hg4 hat4
  clear hg4 hat4
  go_wp2
  go_ret2
  refine ⟨_, rfl, ?_, hb4⟩
  rw [stB, Int.toNat_natCast, Int.toNat_natCast]
  exact ho4

/-- A stamp of a reader. -/
def tStamp (s : Rst) : (Int × Int) × Rst :=
  if (rUpto 15 (rUpto 1099511627776 s).2).2.2 = 0 then (((rUpto 1099511627776 s).1, (rUpto 15 (rUpto 1099511627776 s).2).1), (rUpto 15 (rUpto 1099511627776 s).2).2) else ((0, 0), (rUpto 15 (rUpto 1099511627776 s).2).2)
theorem tStamp_stB (t r : Int) (u : List UInt8) (hs : sright t r = true) : tStamp (stB t r ++ u, 0) = ((t, r), (u, 0)) := by
  obtain ⟨h0, h1, h2, h3⟩ := sright_bd hs
  have e1 : rUpto 1099511627776 (stB t r ++ u, 0) = (t, (numB r.toNat ++ u, 0)) := by
    rw [stB, List.append_assoc, rUpto_numB _ _ _ (by omega) (by omega), Int.toNat_of_nonneg h0]
  have e2 : rUpto 15 (numB r.toNat ++ u, 0) = (r, (u, 0)) := by
    rw [rUpto_numB _ _ _ (by omega) (by omega), Int.toNat_of_nonneg h2]
  unfold tStamp
  simp only [e1, e2, if_true]

set_option maxRecDepth 100000 in
set_option maxHeartbeats 1000000 in
theorem STake_any (base rb : Nat) (s : Rst) (w : World) (h : RdrAt w base rb s) :
    Calls Tryd.prog 64 #[.pointer (some ⟨rb, 0, none⟩)] w (RdrOut w base rb (stv (tStamp s).1.1 (tStamp s).1.2) (tStamp s).2) := by
  have hlt := h.lt
  have R0 := hid (h.below (below_alloc1 w (so 0 0)))
  have S0 := hid (SAt.new w 0 0 _ rfl)
  have G0 := hid (grown_alloc (World.grownBy.refl w (some rb)) (so 0 0))
  clear h
  rcases h1 : rUpto 1099511627776 s with ⟨x, s1⟩
  rcases h2 : rUpto 15 s1 with ⟨y, s2⟩
  have HT := hid (show tStamp s = if s2.2 = 0 then ((x, y), s2) else ((0, 0), s2) by simp only [tStamp, h1, h2])
  have H1 := hid h1; have H2 := hid h2
  clear h1 h2
  go_enter Tryd.func64, Tryd.ntmps64
  go_wp2_with fail
  refine (Upto_any base rb s 1099511627776 _ R0.out).mono ?_
  rw [H1.out]
  rintro e w1 ⟨rfl, hr, hg⟩
  have R1 := hid hr
  have S1 := hid (S0.out.grown hg (by omega))
  have G1 := hid (grown_trans G0.out hg)
  clear hr hg
  dsimp only
  go_wp2_with fail
  refine (Upto_any base rb s1 15 _ R1.out).mono ?_
  rw [H2.out]
  rintro e w2 ⟨rfl, hr, hg⟩
  have RW := hid hr
  have SW := hid (S1.out.grown hg (by omega))
  have GW := hid (grown_trans G1.out hg)
  have R2 := hid (hr.below (below_alloc1 w2 (so x y)))
  have X2 := hid (SAt.new w2 x y _ rfl)
  have l2 := (S1.out.grown hg (by omega)).lt
  clear hr hg
  dsimp only
  go_wp2_with fail
  refine (Err_r base rb s2 _ R2.out).mono ?_
  rintro e w3 ⟨rfl, rfl⟩
  have f0 := SW.out.fz 0; have f1 := SW.out.fz 1
  have c0 := SW.out.c0; have c1 := SW.out.c1
  have x0 := X2.out.c0; have x1 := X2.out.c1
  have keep : ∀ u1 u2, RdrAt (((w2.setCell ⟨w.heap.size, 0, none⟩ u1).setCell ⟨w.heap.size, 1, none⟩ u2).alloc (so x y)) base rb s2 := fun u1 u2 => (RW.out.other SW.out.own (so_cells 0 0) (by omega) fun k hk _ => by
    rw [Below.heap_setCell _ ⟨w.heap.size, 1, none⟩ u2 k hk, Below.heap_setCell _ ⟨w.heap.size, 0, none⟩ u1 k hk]).below (below_alloc1 _ _)
  have HK := hid keep
  clear keep
  by_cases he : s2.2 = 0
  · have HE := hid he
    rw [he]
    clear he
    go_wp2_with fail
    (try simp only [Exit.inBlock, Exit.then]); refine bodyPost_ret (v := stv x y) (by simp [results, show Tryd.f64.results = #[.cell 2 23] from rfl, go_sem, *]) rfl ?_
    rw [HT.out, if_pos HE.out]
    refine ⟨rfl, HK.out _ _, ?_⟩
    repeat' first | exact GW.out | refine grown_put ?_ _ _ _ (.inl (Nat.le_refl _)) | refine grown_alloc ?_ _
  · have HE := hid he
    have he' : (s2.2 == 0) = false := by simp [he]
    have he2 : (s2.2 != 0) = true := by simp [he]
    go_wp2_with fail
    (try simp only [Exit.inBlock, Exit.then]); refine bodyPost_ret (v := stv 0 0) (by simp [results, show Tryd.f64.results = #[.cell 2 23] from rfl, go_sem, *]) rfl ?_
    rw [HT.out, if_neg HE.out]
    refine ⟨rfl, HK.out _ _, ?_⟩
    repeat' first | exact GW.out | refine grown_put ?_ _ _ _ (.inl (Nat.le_refl _)) | refine grown_alloc ?_ _
end Go.Proofs.YtnakanophilfhaaDoor
