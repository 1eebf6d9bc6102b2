/- Layer 2: what the law knows; the order. -/
import Derived.Test.YtdbghnfmhgjkaaaDoorStB
namespace Go.Proofs.YtdbghnfmhgjkaaaDoor
open Go.RowKit Go.Dio
set_option linter.unusedVariables false
set_option linter.unusedSimpArgs false

set_option maxRecDepth 100000 in
set_option maxHeartbeats 2000000 in
theorem knows2_any (w : World) : Calls Tryd.prog 18 #[] w fun e w' => e = .returned (.bool true) ∧ Below w.heap.size w w' := by
  go_enter Tryd.func18, Tryd.ntmps18
  go_wp2_with fail
  refine (New2_ok 2 4 _ (by decide)).mono ?_
  rintro e w1 ⟨p, rfl, hc, hb⟩
  have HB1 := hid hb
  have HC1 := hid hc
  clear hb hc
  go_wp2_with fail
  refine (Next2_any _ p 2 4 3 _ HC1.out (by omega)).mono ?_
  rw [show cnext 2 4 3 = ((5, 2), 0, 7) from rfl]
  rintro e w2 ⟨rfl, hc, hg⟩
  have HB2 := hid (HB1.out.grown hg HB1.out.size (fun q hq => by cases hq; exact HC1.out.lo))
  have HC2 := hid hc
  clear hc hg
  dsimp only
  go_wp2_with fail
  have HB3 := hid (below_new HB2.out (Obj.cells #[Value.int IntKind.i64 5, Value.int IntKind.i64 2] 33))
  have HC3 := hid (HC2.out.below (below_alloc1 w2 (Obj.cells #[Value.int IntKind.i64 5, Value.int IntKind.i64 2] 33)))
  have d0 : (w2.alloc (Obj.cells #[Value.int IntKind.i64 5, Value.int IntKind.i64 2] 33)).cell? ⟨w2.heap.size, 0, none⟩ = some (.int .i64 5) := by simp
  have d1 : (w2.alloc (Obj.cells #[Value.int IntKind.i64 5, Value.int IntKind.i64 2] 33)).cell? ⟨w2.heap.size, 1, none⟩ = some (.int .i64 2) := by simp
  have D0 := hid d0
  have D1 := hid d1
  generalize hV : (w2.alloc (Obj.cells #[Value.int IntKind.i64 5, Value.int IntKind.i64 2] 33)) = V at *
  clear hV
  refine (num2_any 0 _).mono ?_
  rintro e w3 ⟨rfl, rfl⟩
  go_wp2_with fail
  refine (num2_any 0 _).mono ?_
  rintro e w3 ⟨rfl, rfl⟩
  go_wp2_with fail
  refine (Time2_any _ p 2 7 _ HC3.out).mono ?_
  rintro e w3 ⟨rfl, rfl⟩
  go_wp2_with fail
  refine (Print_52 _).mono ?_
  rintro e w4 ⟨rfl, hb4⟩
  have HB4 := hid (below_then HB3.out hb4)
  have e0 : w4.cell? ⟨w2.heap.size, 0, none⟩ = some (.int .i64 5) := by rw [hb4.cell (p := ⟨w2.heap.size, 0, none⟩) (World.block_lt_of_cell? _ _ D0.out)]; exact D0.out
  have e1 : w4.cell? ⟨w2.heap.size, 1, none⟩ = some (.int .i64 2) := by rw [hb4.cell (p := ⟨w2.heap.size, 1, none⟩) (World.block_lt_of_cell? _ _ D1.out)]; exact D1.out
  clear hb4
  go_wp2_with fail
  refine (Compare_any 5 2 5 3 _).mono ?_
  rw [show scmp 5 2 5 3 = -1 from rfl]
  rintro e w5 ⟨rfl, hb5⟩
  have HB5 := hid (below_then HB4.out hb5)
  clear hb5
  go_wp2_with fail
  go_ret
  exact ⟨rfl, HB5.out⟩

/-- The last of a list, place by place. -/
def smaxN (f : Nat → Int × Int) : Nat → Int × Int
  | 0 => (0, 0)
  | i + 1 => if i = 0 ∨ 0 < scmp (f i).1 (f i).2 (smaxN f i).1 (smaxN f i).2 then f i else smaxN f i

set_option maxRecDepth 100000 in
set_option maxHeartbeats 2000000 in
theorem Max_any (b o n c : Nat) (f : Nat → Int × Int) (w : World) (hn : n ≤ c) (hc : c ≤ 9223372036854775807)
    (hx : ∀ i, i < n → w.cell? ⟨b, o + i * 2, none⟩ = some (.int .i64 (f i).1) ∧ w.cell? ⟨b, o + i * 2 + 1, none⟩ = some (.int .i64 (f i).2)) :
    Calls Tryd.prog 24 #[.slice (some ⟨b, o, none⟩) n c] w fun x w' => x = .returned (stv (smaxN f n).1 (smaxN f n).2) ∧ Below w.heap.size w w' := by
  have HX := hid hx
  clear hx
  go_enter Tryd.func24, Tryd.ntmps24
  go_wp2_with fail
  go_loopw [7] (fun v7 wr => ∃ i : Nat, i ≤ n ∧ v7 = .int .i64 i ∧ wr.heap[w.heap.size]? = some (.cells #[.int .i64 (smaxN f i).1, .int .i64 (smaxN f i).2] 33 (0, 0)) ∧ Below w.heap.size w wr) (fun v7 _ => n - (intOf v7).toNat)
  case atStart => exact ⟨0, by omega, rfl, by show (w.heap.push _)[w.heap.size]? = _; simp [smaxN], below_alloc1 _ _⟩
  case round =>
    obtain ⟨i, hi, rfl, hm, hb⟩ := hrel
    by_cases hlt : i < n
    · have h1 := (HX.out i hlt).1
      have h2 := (HX.out i hlt).2
      rw [← hb.cell (p := ⟨b, o + i * 2, none⟩) (World.block_lt_of_cell? _ _ h1)] at h1
      rw [← hb.cell (p := ⟨b, o + i * 2 + 1, none⟩) (World.block_lt_of_cell? _ _ h2)] at h2
      have m0 : wr.cell? ⟨w.heap.size, 0, none⟩ = some (.int .i64 (smaxN f i).1) := by simp [World.cell?, hm]
      have m1 : wr.cell? ⟨w.heap.size, 1, none⟩ = some (.int .i64 (smaxN f i).2) := by simp [World.cell?, hm]
      have mf : wr.frozen? ⟨w.heap.size, 0, none⟩ = false := by simp [World.frozen?, hm]
      have mf1 : wr.frozen? ⟨w.heap.size, 1, none⟩ = false := by simp [World.frozen?, hm]
      have hsz : w.heap.size < wr.heap.size := (Array.getElem?_eq_some_iff.1 hm).1
      have HM := hid hm
      have HS := hid (show smaxN f (i + 1) = if i = 0 ∨ 0 < scmp (f i).1 (f i).2 (smaxN f i).1 (smaxN f i).2 then f i else smaxN f i from rfl)
      have HB := hid hb
      clear hb hm
      generalize smaxN f i = m at *
      generalize f i = x at *
      obtain ⟨x1, x2⟩ := x
      obtain ⟨y1, y2⟩ := m
      dsimp only at *
      by_cases hi0 : i = 0
      · subst hi0
        simp only [Nat.zero_mul, Nat.add_zero, Nat.zero_add] at h1 h2
        go_wp2_with fail
        go_roundw
        case rel =>
          refine ⟨1, by omega, by go_num, ?_, ?_⟩
          · rw [HS.out, if_pos (.inl rfl), (below_alloc1 _ _).block _ (by simpa [World.setCell] using hsz)]
            exact cells_put (cells_put HM.out 0 _) 1 _
          · exact (below_put (below_put HB.out _ _ _ (Nat.le_refl _)) _ _ _ (Nat.le_refl _)).trans ((below_alloc1 _ _).mono (by simpa [World.setCell] using Nat.le_of_lt hsz))
        case measure => simp [intOf]; omega
      · have hi1 : ((i : Int) == 0) = false := by simp; omega
        go_wp2_with fail
        refine (Compare_any x1 x2 y1 y2 _).mono ?_
        rintro e w3 ⟨rfl, hb3⟩
        have hlt1 : w.heap.size < (wr.alloc (Obj.cells #[Value.int IntKind.i64 x1, Value.int IntKind.i64 x2] 33)).heap.size := Nat.lt_of_lt_of_le hsz (below_alloc1 _ _).size
        have g3 : w3.heap[w.heap.size]? = some (.cells #[.int .i64 y1, .int .i64 y2] 33 (0, 0)) := by
          rw [hb3.block _ hlt1, (below_alloc1 wr _).block _ hsz]; exact HM.out
        have n0 : w3.cell? ⟨w.heap.size, 0, none⟩ = some (.int .i64 y1) := by simp [World.cell?, g3]
        have n1 : w3.cell? ⟨w.heap.size, 1, none⟩ = some (.int .i64 y2) := by simp [World.cell?, g3]
        have nf : w3.frozen? ⟨w.heap.size, 0, none⟩ = false := by simp [World.frozen?, g3]
        have nf1 : w3.frozen? ⟨w.heap.size, 1, none⟩ = false := by simp [World.frozen?, g3]
        have k0 : w3.cell? ⟨wr.heap.size, 0, none⟩ = some (.int .i64 x1) := by rw [hb3.cell (by simp)]; simp
        have k1 : w3.cell? ⟨wr.heap.size, 1, none⟩ = some (.int .i64 x2) := by rw [hb3.cell (by simp)]; simp
        have HB3 := hid ((HB.out.trans ((below_alloc1 wr _).mono (Nat.le_of_lt hsz))).trans (hb3.mono (Nat.le_of_lt hlt1)))
        have G3 := hid g3
        clear g3 hb3
        by_cases hgt : 0 < scmp x1 x2 y1 y2
        · have hS2 := hid (HS.out.trans (if_pos (.inr hgt)))
          generalize scmp x1 x2 y1 y2 = sc at *
          go_wp2_with fail
          go_roundw
          case rel =>
            refine ⟨i + 1, by omega, by go_num, ?_, ?_⟩
            · rw [hS2.out]; exact cells_put (cells_put G3.out 0 _) 1 _
            · exact below_put (below_put HB3.out _ _ _ (Nat.le_refl _)) _ _ _ (Nat.le_refl _)
          case measure => simp [intOf]; omega
        · have hS2 := hid (HS.out.trans (if_neg (by omega)))
          generalize scmp x1 x2 y1 y2 = sc at *
          have hgt' : sc ≤ 0 := by omega
          go_wp2_with fail
          all_goals
            refine ⟨⟨i + 1, by omega, by go_num, by rw [hS2.out]; exact G3.out, HB3.out⟩, ?_⟩
            simp [intOf]; omega
    · have hin : i = n := by omega
      subst hin
      have mf : wr.frozen? ⟨w.heap.size, 0, none⟩ = false := by simp [World.frozen?, hm]
      have mf1 : wr.frozen? ⟨w.heap.size, 1, none⟩ = false := by simp [World.frozen?, hm]
      have m0 : wr.cell? ⟨w.heap.size, 0, none⟩ = some (.int .i64 (smaxN f i).1) := by simp [World.cell?, hm]
      have m1 : wr.cell? ⟨w.heap.size, 1, none⟩ = some (.int .i64 (smaxN f i).2) := by simp [World.cell?, hm]
      have HB := hid hb
      clear hb hm
      go_wp2_with fail
      (try simp only [Exit.inBlock, Exit.then]); refine bodyPost_ret (v := stv (smaxN f i).1 (smaxN f i).2) (by simp [results, show Tryd.f24.results = #[.cell 2 33] from rfl, go_sem, *]) rfl ?_
      exact ⟨rfl, below_put (below_put HB.out _ _ _ (Nat.le_refl _)) _ _ _ (Nat.le_refl _)⟩
end Go.Proofs.YtdbghnfmhgjkaaaDoor
