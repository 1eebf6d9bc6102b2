/- BtS BtE BtG in one. -/
import Derived.Test.YtnakanophilfhaaDoorBzM
import Derived.Test.YtnakanophilfhaaDoorPure3
/- BtS: Layer 8: what batch.Take holds on its way: the reader, the batch as far as it is read, its ops' row. -/
namespace Go.Proofs.YtnakanophilfhaaDoor
open Go.RowKit Go.Dio
set_option linter.unusedVariables false
set_option linter.unusedSimpArgs false
theorem bxs_noB (x y z : Int) (A : Option Addr) (n c : Nat) (i : Nat) (m : Int) : (bxs x y z A n c)[i]? ≠ some (.int .u8 m) := by
  match i with
  | 0 => simp
  | 1 => simp
  | 2 => simp
  | 3 => simp
  | i + 4 => simp
structure TbAt (w0 w : World) (base rb R X : Nat) (s : Rst) (x y z : Int) (A : Option Addr) (n c : Nat) (l : List OpV) : Prop where
  rdr : RdrAt w base rb s
  x : BAt w X x y z A n c
  r : BAt w R 0 0 0 none 0 0
  row : w.ownsRow w0.heap.size 35 12 (.slice A n c) n (ov l)
  nob : OwnAll noB w (.slice A n c)
  grown : w0.grownBy w (some rb)
  lt : rb < w0.heap.size
  leR : w0.heap.size ≤ R
  leX : w0.heap.size ≤ X
  ne : R ≠ X
  far : ∀ k, (Value.slice A n c).ownBlock = some k → k ≠ X ∧ k ≠ R
  each : ∀ p ∈ l, OpIs w p.d p.A p.n p.c
  far2 : ∀ p ∈ l, ∀ a, p.A = some a → w0.heap.size ≤ a.block ∧ a.block < w.heap.size ∧ a.block ≠ X ∧ a.block ≠ R ∧ (Value.slice A n c).ownBlock ≠ some a.block
theorem OpIs.move {w w' : World} {d : OpD} {A : Option Addr} {n c : Nat} (h : OpIs w d A n c) (hk : ∀ a, A = some a → w'.heap[a.block]? = w.heap[a.block]?) : OpIs w' d A n c := ⟨h.st.move hk, h.key, h.vt⟩
theorem RootsAt.grownR {w w' : World} {rb : Nat} (h : RootsAt w) (hb : w.grownBy w' (some rb)) (hr : 2 ≤ rb) : RootsAt w' := h.grown hb hr
section
variable {w0 w w' : World} {base rb R X : Nat} {s s' : Rst} {x y z : Int} {A : Option Addr} {n c : Nat} {l : List OpV}
theorem TbAt.rd (h : TbAt w0 w base rb R X s x y z A n c l) (hr : RdrAt w' base rb s') (hg : w.grownBy w' (some rb)) : TbAt w0 w' base rb R X s' x y z A n c l := by
  have h1 := h.lt; have h2 := h.leR; have h3 := h.leX
  have hk : ∀ k, (Value.slice A n c).ownBlock = some k → k ≠ rb := fun k hk => by have := (h.row.lt k hk).1; omega
  refine ⟨hr, h.x.grown hg (by simp; omega), h.r.grown hg (by simp; omega), h.row.kept hg ?_, h.nob.kept fun g hgk => hg.block g (h.row.lt g hgk).2 (by simp; exact hk g hgk), grown_trans h.grown hg, h1, h2, h3, h.ne, h.far, fun p hp => (h.each p hp).move fun a ha => ?_, fun p hp a ha => ?_⟩
  · rcases e : (Value.slice A n c).ownBlock with _ | k
    · exact .inl rfl
    · exact .inr (by simp; exact hk k e)
  · have q := h.far2 p hp a ha
    exact hg.block _ q.2.1 (by simp; omega)
  · have q := h.far2 p hp a ha
    exact ⟨q.1, Nat.lt_of_lt_of_le q.2.1 hg.size, q.2.2⟩
theorem TbAt.below (h : TbAt w0 w base rb R X s x y z A n c l) (hb : Below w.heap.size w w') : TbAt w0 w' base rb R X s x y z A n c l :=
  h.rd (h.rdr.below hb) (grown_then (World.grownBy.refl w _) hb)
/-- One op more: the row, and the batch's slice. -/
theorem TbAt.more (h : TbAt w0 w base rb R X s x y z A n c l) (p : OpV) (hp : OpIs w p.d p.A p.n p.c) (hpf : ∀ a, p.A = some a → w0.heap.size ≤ a.block ∧ a.block < w.heap.size ∧ a.block ≠ X ∧ a.block ≠ R ∧ (Value.slice A n c).ownBlock ≠ some a.block)
    {w2 : World} {A' : Option Addr} {c' : Nat} (hg : w.grownBy w2 (Value.slice A n c).ownBlock) (hrow : w2.ownsRow w0.heap.size 35 12 (.slice A' (n + 1) c') (n + 1) (ov l ++ ov [p]))
    (hnob : OwnAll noB w2 (.slice A' (n + 1) c')) (hat : (Value.slice A' (n + 1) c').ownBlock = (Value.slice A n c).ownBlock ∨ (Value.slice A' (n + 1) c').ownBlock = some w.heap.size) :
    BAt w2 X x y z A n c ∧ TbAt w0 (w2.setCell ⟨X, 3, none⟩ (.slice A' (n + 1) c')) base rb R X s x y z A' (n + 1) c' (l ++ [p]) := by
  have h1 := h.lt; have h2 := h.leR; have h3 := h.leX; have h4 := h.ne
  have hxl := h.x.lt; have hrl := h.r.lt
  have hX : BAt w2 X x y z A n c := h.x.grown hg (fun e => (h.far X e).1 rfl)
  have hR : BAt w2 R 0 0 0 none 0 0 := h.r.grown hg (fun e => (h.far R e).2 rfl)
  have hrdr : RdrAt w2 base rb s := by
    rcases e : (Value.slice A n c).ownBlock with _ | g
    · rw [e] at hg
      exact h.rdr.move fun k _ hk => hg.block k hk (by simp)
    · rw [e] at hg
      have hgl := h.row.lt g e
      rcases h.row.2 with ⟨e2, _⟩ | ⟨g', cap, cur, e2, _, hgc, _⟩
      · rw [e2] at e; cases e
      · rw [e2] at e
        cases e
        refine h.rdr.other hgc (fun i m e3 => ?_) (by omega) (fun k hk hkl => hg.block k hkl (by simp; exact hk))
        have := h.nob g' cur _ _ (by rw [e2]; rfl) hgc (.int .u8 m) (by rw [List.mem_iff_getElem?]; exact ⟨i, by simpa using e3⟩) m
        exact this rfl
  have hfar : ∀ k, (Value.slice A' (n + 1) c').ownBlock = some k → k ≠ X ∧ k ≠ R := fun k hk => by
    rcases hat with e | e
    · exact h.far k (by rw [← e]; exact hk)
    · rw [e] at hk; cases hk; omega
  have hk : ∀ k, k ≠ X → (w2.setCell ⟨X, 3, none⟩ (.slice A' (n + 1) c')).heap[k]? = w2.heap[k]? := fun k hk => Below.heap_setCell w2 ⟨X, 3, none⟩ _ k hk
  have gs := grown_set w2 X 3 (.slice A' (n + 1) c')
  have hall : ∀ q ∈ l ++ [p], OpIs w q.d q.A q.n q.c ∧ ∀ a, q.A = some a → w0.heap.size ≤ a.block ∧ a.block < w.heap.size ∧ a.block ≠ X ∧ a.block ≠ R ∧ (Value.slice A n c).ownBlock ≠ some a.block := by
    intro q hq
    rcases List.mem_append.1 hq with hq | hq
    · exact ⟨h.each q hq, h.far2 q hq⟩
    · rw [List.mem_singleton] at hq
      subst hq
      exact ⟨hp, hpf⟩
  refine ⟨hX, hrdr.other hX.own (bxs_noB x y z A n c) (by omega) (fun k hk' _ => hk k hk'), ⟨by rw [cellsT_set hX.own 3 _]; rfl⟩, ⟨by rw [hk R h4]; exact hR.own⟩, ?_, hnob.kept fun g hg => hk g (hfar g hg).1, ?_, h1, h2, h3, h4, hfar, fun q hq => ?_, fun q hq a ha => ?_⟩
  · rw [ov_append]
    refine hrow.kept (row := some X) gs ?_
    rcases e : (Value.slice A' (n + 1) c').ownBlock with _ | k
    · exact .inl rfl
    · exact .inr (by simp; exact (hfar k e).1)
  · refine ⟨gs.os.trans (hg.os.trans h.grown.os), gs.tape.trans (hg.tape.trans h.grown.tape), gs.output.trans (hg.output.trans h.grown.output), Nat.le_trans (Nat.le_trans h.grown.size hg.size) gs.size, fun k hk1 hk2 => (hk k (by omega)).trans ((hg.block k (by have := h.grown.size; omega) (fun e => ?_)).trans (h.grown.block k hk1 hk2))⟩
    have := (h.row.lt k e.symm).1
    omega
  · obtain ⟨q1, q2⟩ := hall q hq
    refine q1.move fun a ha => ?_
    have q3 := q2 a ha
    rw [hk a.block q3.2.2.1]
    exact hg.block _ q3.2.1 (fun e => q3.2.2.2.2 e.symm)
  · obtain ⟨q1, q2⟩ := hall q hq
    have q3 := q2 a ha
    refine ⟨q3.1, Nat.lt_of_lt_of_le q3.2.1 (Nat.le_trans hg.size gs.size), q3.2.2.1, q3.2.2.2.1, fun e => ?_⟩
    rcases hat with e2 | e2
    · exact q3.2.2.2.2 (by rw [← e2]; exact e)
    · rw [e2] at e
      have e3 := Option.some.inj e
      omega
theorem TbAt.size2 (h : TbAt w0 w base rb R X s x y z A n c l) : w0.heap.size ≤ w.heap.size := h.grown.size
theorem TbAt.ops (h : TbAt w0 w base rb R X s x y z A n c l) : IsOps w A n c l := by
  obtain ⟨A', c', e, h1, h2, h3, _⟩ := owns_form h.row
  cases e
  have hl := h.row.1
  rw [ov_length] at hl
  exact ⟨by omega, h1, h2, h3, h.each⟩
/-- What is written out. -/
def outB (w : World) (R : Nat) (x y z : Int) (A : Option Addr) (n c : Nat) : World := (((w.setCell ⟨R, 0, none⟩ (.int .i64 x)).setCell ⟨R, 1, none⟩ (.int .i64 y)).setCell ⟨R, 2, none⟩ (.int .i64 z)).setCell ⟨R, 3, none⟩ (.slice A n c)
theorem outB_other (w : World) (R : Nat) (x y z : Int) (A : Option Addr) (n c : Nat) (k : Nat) (hk : k ≠ R) : (outB w R x y z A n c).heap[k]? = w.heap[k]? := by
  unfold outB
  rw [Below.heap_setCell _ ⟨R, 3, none⟩ _ k hk, Below.heap_setCell _ ⟨R, 2, none⟩ _ k hk, Below.heap_setCell _ ⟨R, 1, none⟩ _ k hk, Below.heap_setCell _ ⟨R, 0, none⟩ _ k hk]
theorem outB_grown (w : World) (R : Nat) (x y z : Int) (A : Option Addr) (n c : Nat) : w.grownBy (outB w R x y z A n c) (some R) := by
  unfold outB
  exact grown_trans (grown_trans (grown_trans (grown_set w R 0 _) (grown_set _ R 1 _)) (grown_set _ R 2 _)) (grown_set _ R 3 _)
theorem BAt.set4 {w : World} {R : Nat} {x0 y0 z0 : Int} {A0 : Option Addr} {n0 c0 : Nat} (h : BAt w R x0 y0 z0 A0 n0 c0) (x y z : Int) (A : Option Addr) (n c : Nat) : BAt (outB w R x y z A n c) R x y z A n c := ⟨by simp [outB, World.setCell, Array.getElem?_modify, h.own]⟩
theorem TbAt.out (h : TbAt w0 w base rb R X s x y z A n c l) (x' y' z' : Int) (A' : Option Addr) (n' c' : Nat) :
    BAt (outB w R x' y' z' A' n' c') R x' y' z' A' n' c' ∧ RdrAt (outB w R x' y' z' A' n' c') base rb s ∧ w0.grownBy (outB w R x' y' z' A' n' c') (some rb) ∧ IsOps (outB w R x' y' z' A' n' c') A n c l := by
  have h1 := h.lt; have h2 := h.leR
  have hk := outB_other w R x' y' z' A' n' c'
  have g := outB_grown w R x' y' z' A' n' c'
  have ho := h.ops
  refine ⟨h.r.set4 .., h.rdr.other h.r.own (bxs_noB 0 0 0 none 0 0) (by omega) (fun k hk' _ => hk k hk'), ⟨g.os.trans h.grown.os, g.tape.trans h.grown.tape, g.output.trans h.grown.output, Nat.le_trans h.grown.size g.size, fun k hk1 hk2 => (hk k (by omega)).trans (h.grown.block k hk1 hk2)⟩, ho.len, ho.cap, ho.max, ho.cells.move fun a ha => hk a.block ?_, fun p hp => (ho.each p hp).move fun a ha => hk a.block ?_⟩
  · subst ha; exact (h.far a.block rfl).2
  · exact (h.far2 p hp a ha).2.2.2.1
end
end Go.Proofs.YtnakanophilfhaaDoor
/- BtE: Layer 8: a batch of a reader, and out of a frame. -/
namespace Go.Proofs.YtnakanophilfhaaDoor
open Go.RowKit Go.Dio
set_option linter.unusedVariables false
set_option linter.unusedSimpArgs false

theorem frNG {Q : Exit → Act → World → Prop} {a : Act} {w : World} (h : Q .ret a w) : Exit.noGoto Q .ret a w := h
theorem frJR {Q : Exit → Act → World → Prop} {J : Act → World → Prop} {k : Nat} {a : Act} {w : World} (h : Q .ret a w) : Exit.jump k J Q .ret a w := h
theorem frJG {Q : Exit → Act → World → Prop} {J : Act → World → Prop} {k : Nat} {a : Act} {w : World} (h : J a w) : Exit.jump k J Q (.goto k) a w := ⟨rfl, h⟩
theorem wp_lab {P : Program} {Q : Exit → Act → World → Prop} {a : Act} {w : World} {k : Nat} (h : Q .normal a w) : (Code.label k).wp P Q a w := fun _ _ _ => ⟨.normal, a, w, h, .one step_label⟩
theorem ov_new (w : World) (p : OpV) (T : TypeId) : ∀ j u, (ov [p])[j]? = some u → (w.alloc (.cells (ox p) T)).cell? ((⟨w.heap.size, 0, none⟩ : Addr).add j) = some u := fun j u hj => by
  have hj' : (ox p)[j]? = some u := by simpa [ov] using hj
  rw [Addr.add_lit]
  rw [Nat.zero_add]
  exact (cell_of (new_at w (.cells (ox p) T)) j hj')
theorem info_op : (Tryd.prog.info? 35).map (fun i => (i.zero, i.size, i.bytes)) = some (some (.agg #[.int .i64 0, .int .i64 0, .int .i64 0, .int .i64 0, .int .i64 0, .string ⟨#[]⟩, .slice none 0 0, .int .i64 0, .int .i64 0, .int .i64 0, .string ⟨#[]⟩, .bool false]), 12, 128) := by kernel_rfl
set_option maxRecDepth 100000 in
set_option maxHeartbeats 4000000 in
theorem BTake_any (base rb : Nat) (s : Rst) (w : World) (h : RdrAt w base rb s) (hg : RootsAt w) (hb : 2 ≤ base) :
    Calls Tryd.prog 42 #[.pointer (some ⟨rb, 0, none⟩)] w fun e w' => ∃ A n c l, e = .returned (btv (tBt s).1.rep (tBt s).1.seq (tBt s).1.time A n c) ∧ BtIs w' (tBt s).1 A n c l ∧ RdrAt w' base rb (tBt s).2 ∧ w.grownBy w' (some rb) ∧ (∀ a, A = some a → w.heap.size ≤ a.block) ∧ ∀ p ∈ l, ∀ a, p.A = some a → w.heap.size ≤ a.block := by
  rcases e1 : rUpto 15 s with ⟨x, s1⟩
  rcases e2 : rUpto 512 s1 with ⟨y, s2⟩
  rcases e3 : rUpto 281474976710655 s2 with ⟨z, s3⟩
  rcases e4 : rUpto 64 s3 with ⟨m0, s4⟩
  have hrg := rUpto_range s3 64 (by omega)
  rw [e4] at hrg
  dsimp only at hrg
  obtain ⟨m, rfl⟩ := Int.eq_ofNat_of_zero_le hrg.1
  rcases e5 : rOps m s4 with ⟨L, s5⟩
  have HT := hid (show tBt s = btLook ⟨x, y, z, L⟩ s5 by simp only [tBt, btRead, e1, e2, e3, e4, Int.toNat_natCast, e5])
  have hm64 : m ≤ 64 := by omega
  have hrb := h.lt
  have hlo := h.lo
  have HG := hid hg
  have E1 := hid e1; have E2 := hid e2; have E3 := hid e3; have E4 := hid e4; have E5 := hid e5
  clear hg e1 e2 e3 e4 e5 hrg
  refine frCall (args := [.pointer (some ⟨rb, 0, none⟩)]) (N := 40) Tryd.func42 rfl rfl rfl (fun a0 F0 => ?_)
  refine wp_seq ?_
  refine kGo ?_
  refine kVal (v := ?v1) (w' := w.alloc (bto 0 0 0 none 0 0)) F0 rfl rfl rfl rfl ?y1 (fun a1 F1 => ?h1)
  case y1 =>
    skip
    go_simp
    all_goals (first | with_reducible rfl | (constructor <;> first | with_reducible rfl | rfl) | skip)
  clear F0 a0
  have R1 := h.below (below_alloc1 w (bto 0 0 0 none 0 0))
  have O1 := BAt.new w 0 0 0 none 0 0 _ rfl
  have G1 := grown_then (World.grownBy.refl w (some rb)) (below_alloc1 w (bto 0 0 0 none 0 0))
  generalize hw1 : w.alloc (bto 0 0 0 none 0 0) = w1 at *
  clear hw1
  have F2 := F1.sub (l' := [(0, .pointer (some ⟨rb, 0, none⟩)), (2, .pointer (some ⟨w.heap.size, 0, none⟩))]) ⟨rfl, rfl, trivial⟩
  clear F1
  refine kFin rfl ?_
  refine frNext ?_
  refine wp_scope_fwd 0 rfl ?_
  refine wp_seq ?_
  refine kGo ?_
  refine kMove F2 rfl rfl rfl rfl rfl (fun a3 F3 => ?_)
  clear F2 a1
  have hc := Upto_any base rb s 15 _ R1
  rw [E1.out] at hc
  dsimp only at hc
  refine kCall F3 rfl rfl rfl rfl (hc) ?y4 ?h4
  case y4 =>
    have e6 := F3.ev 6 rfl; have g6 := F3.get 6 _ rfl
    go_simp; try with_reducible rfl
  rintro e w2 ⟨rfl, hr, hg⟩
  have O2 := O1.grown hg (by simp; omega)
  have G2 := grown_trans G1 hg
  clear O1 G1 hg R1
  have O1 := O2
  have G1 := G2
  have R1 := hr
  clear O2 G2 hr
  refine ⟨_, rfl, fun a4 F4 => ?_⟩
  clear F3 a3
  refine kMove F4 rfl rfl rfl rfl rfl (fun a5 F5 => ?_)
  clear F4 a4
  have hc2 := Upto_any base rb s1 512 _ R1
  rw [E2.out] at hc2
  dsimp only at hc2
  refine kCall F5 rfl rfl rfl rfl (hc2) ?y6 ?h6
  case y6 =>
    have e8 := F5.ev 8 rfl; have g8 := F5.get 8 _ rfl
    go_simp; try with_reducible rfl
  rintro e w3 ⟨rfl, hr, hg⟩
  have O2 := O1.grown hg (by simp; omega)
  have G2 := grown_trans G1 hg
  clear O1 G1 hg R1
  have O1 := O2
  have G1 := G2
  have R1 := hr
  clear O2 G2 hr
  refine ⟨_, rfl, fun a6 F6 => ?_⟩
  clear F5 a5
  refine kMove F6 rfl rfl rfl rfl rfl (fun a7 F7 => ?_)
  clear F6 a6
  have hc3 := Num_r base rb s2 _ R1
  rw [E3.out] at hc3
  dsimp only at hc3
  refine kCall F7 rfl rfl rfl rfl (hc3) ?y8 ?h8
  case y8 =>
    have e10 := F7.ev 10 rfl; have g10 := F7.get 10 _ rfl
    go_simp; try with_reducible rfl
  rintro e w4 ⟨rfl, hr, hg⟩
  have O2 := O1.grown hg (by simp; omega)
  have G2 := grown_trans G1 hg
  clear O1 G1 hg R1
  have O1 := O2
  have G1 := G2
  have R1 := hr
  clear O2 G2 hr
  refine ⟨_, rfl, fun a8 F8 => ?_⟩
  clear F7 a7
  refine kTake (v := btv x y z none 0 0) F8 rfl rfl rfl rfl ?y9 (fun a9 F9 => ?h9)
  case y9 =>
    have e7 := F8.ev 7 rfl; have g7 := F8.get 7 _ rfl; have e9 := F8.ev 9 rfl; have g9 := F8.get 9 _ rfl; have e11 := F8.ev 11 rfl; have g11 := F8.get 11 _ rfl
    go_simp; try with_reducible rfl
  clear F8 a8
  refine kVal (v := ?v10) (w' := w4.alloc (bto 0 0 0 none 0 0)) F9 rfl rfl rfl rfl ?y10 (fun a10 F10 => ?h10)
  case y10 =>
    skip
    go_simp
    all_goals (first | with_reducible rfl | (constructor <;> first | with_reducible rfl | rfl) | skip)
  clear F9 a9
  refine kStore (w' := w4.alloc (bto x y z none 0 0)) F10 rfl rfl rfl ?y11 (fun a11 F11 => ?h11)
  case y11 =>
    have e3 := F10.ev 3 rfl; have g3 := F10.get 3 _ rfl; have e12 := F10.ev 12 rfl; have g12 := F10.get 12 _ rfl
    go_simp; try with_reducible rfl
  clear F10 a10
  have F12 := F11.sub (l' := [(0, .pointer (some ⟨rb, 0, none⟩)), (2, .pointer (some ⟨w.heap.size, 0, none⟩)), (3, .pointer (some ⟨w4.heap.size, 0, none⟩))]) ⟨rfl, rfl, rfl, trivial⟩
  clear F11
  have hb2' := below_alloc1 w4 (bto x y z none 0 0)
  have T : TbAt w (w4.alloc (bto x y z none 0 0)) base rb w.heap.size w4.heap.size s3 x y z none 0 0 [] :=
    ⟨R1.below hb2', BAt.new w4 x y z none 0 0 _ rfl, O1.below hb2', World.ownsRow_nil _ _ _ _, OwnAll.nil _ _, grown_then G1 hb2', hrb, Nat.le_refl _, G1.size, (by have := O1.lt; omega), (fun k hk => by cases hk), (fun p hp => by cases hp), (fun p hp => by cases hp)⟩
  clear R1 O1 G1 hb2' hc hc2 hc3
  generalize w4.heap.size = X at *
  generalize w4.alloc (bto x y z none 0 0) = w5 at *
  generalize hRR : w.heap.size = RR at *
  have HRR := hid hRR
  clear hRR
  refine kFin rfl ?_
  refine frNext ?_
  refine wp_seq ?_
  refine wp_seq ?_
  refine kGo ?_
  refine kMove F12 rfl rfl rfl rfl rfl (fun a13 F13 => ?_)
  clear F12 a11
  have hc := Upto_any base rb s3 64 _ T.rdr
  rw [E4.out] at hc
  dsimp only at hc
  refine kCall F13 rfl rfl rfl rfl (hc) ?y14 ?h14
  case y14 =>
    have e13 := F13.ev 13 rfl; have g13 := F13.get 13 _ rfl
    go_simp; try with_reducible rfl
  rintro e wN ⟨rfl, hr, hg⟩
  replace T := T.rd hr hg
  clear hr hg
  refine ⟨_, rfl, fun a14 F14 => ?_⟩
  clear F13 a13
  refine kMove F14 rfl rfl rfl rfl rfl (fun a15 F15 => ?_)
  clear F14 a14
  have F16 := F15.sub (l' := [(0, .pointer (some ⟨rb, 0, none⟩)), (2, .pointer (some ⟨RR, 0, none⟩)), (3, .pointer (some ⟨X, 0, none⟩)), (4, .int .i64 (m : Int))]) ⟨rfl, rfl, rfl, rfl, trivial⟩
  clear F15
  refine kFin rfl ?_
  refine frNext ?_
  refine frBlock ?_
  clear hc
  refine wp_loop (fun aL wL => ∃ (k : Nat) (sk : Rst) (A : Option Addr) (n c : Nat) (l : List OpV), n + k = m ∧ Fr aL 40 [(0, .pointer (some ⟨rb, 0, none⟩)), (2, .pointer (some ⟨RR, 0, none⟩)), (3, .pointer (some ⟨X, 0, none⟩)), (4, .int .i64 (k : Int))] ∧ TbAt w wL base rb RR X sk x y z A n c l ∧ (L, s5) = (l.map OpV.d ++ (rOps k sk).1, (rOps k sk).2)) (fun aL _ => (intOf (aL.tmps.getD 4 undef)).toNat) ?st ?rd
  case st => exact ⟨m, s4, none, 0, 0, [], by omega, F16, T, by rw [← E5.out]; simp⟩
  case rd =>
    clear T F16 a15
    rintro aL wL ⟨k, sk, A, n, c, l, hnk, FL, T, heq⟩
    have HEQ := hid heq
    clear heq
    rw [show intOf (aL.tmps.getD 4 undef) = (k : Int) by rw [FL.ev 4 rfl]; rfl]
    refine wp_seq ?_
    refine wp_seq ?_
    rcases k with _ | k
    · skip
      refine kGo ?_
      refine kMove FL rfl rfl rfl rfl rfl (fun a17 F17 => ?_)
      clear FL aL
      refine kTake (v := .bool false) F17 rfl rfl rfl rfl ?y18 (fun a18 F18 => ?h18)
      case y18 =>
        have e15 := F17.ev 15 rfl; have g15 := F17.get 15 _ rfl
        first | (go_simp; done) | (go_simp; omega)
      clear F17 a17
      have F19 := F18.sub (l' := [(0, .pointer (some ⟨rb, 0, none⟩)), (2, .pointer (some ⟨RR, 0, none⟩)), (3, .pointer (some ⟨X, 0, none⟩)), (16, .bool false)]) ⟨rfl, rfl, rfl, rfl, trivial⟩
      clear F18
      refine kFin rfl ?_
      refine frNext ?_
      refine frCond (b := false) F19 rfl ?_
      simp only [Bool.false_eq_true, if_false]
      refine wp_exit ?_
      refine frThenE ?_
      refine frThenE ?_
      refine frBlkE ?_
      refine frNext ?_
      have F20 := F19.sub (l' := [(0, .pointer (some ⟨rb, 0, none⟩)), (2, .pointer (some ⟨RR, 0, none⟩)), (3, .pointer (some ⟨X, 0, none⟩))]) ⟨rfl, rfl, rfl, trivial⟩
      clear F19
      obtain ⟨hL, hs5⟩ : L = l.map OpV.d ∧ s5 = sk := by
        have := HEQ.out
        simp only [rOps, List.append_nil, Prod.mk.injEq] at this
        exact this
      subst hL hs5
      clear HEQ
      refine wp_seq_k (fun K1 k1 => ?_)
      have J1 : ∀ aJ wJ s7, Fr aJ 40 [(0, .pointer (some ⟨rb, 0, none⟩)), (2, .pointer (some ⟨RR, 0, none⟩)), (3, .pointer (some ⟨X, 0, none⟩))] → TbAt w wJ base rb RR X s7 x y z A n c l → (s7 = if bright ⟨x, y, z, l.map OpV.d⟩ = true then s5 else rFail s5 21) → K1 aJ wJ := by
        clear T F20 a18
        intro aJ wJ s7 FJ T hs7
        refine k1 _ _ ?_
        clear k1 K1
        have HS7 := hid hs7
        clear hs7
        refine wp_seq ?_
        refine wp_seq ?_
        refine kGo ?_
        refine kMove FJ rfl rfl rfl rfl rfl (fun a21 F21 => ?_)
        clear FJ aJ
        refine kCall F21 rfl rfl rfl rfl (Err_r base rb s7 _ T.rdr) ?y22 ?h22
        case y22 =>
          have e35 := F21.ev 35 rfl; have g35 := F21.get 35 _ rfl
          go_simp; try with_reducible rfl
        rintro e wN ⟨rfl, rfl⟩
        refine ⟨_, rfl, fun a22 F22 => ?_⟩
        clear F21 a21
        by_cases hz : ¬ s7.2 = 0
        · skip
          have hz2 : (s7.2 == 0) = false := by simp [hz]
          have HZ := hid hz
          refine kTake (v := .bool false) F22 rfl rfl rfl rfl ?y23 (fun a23 F23 => ?h23)
          case y23 =>
            have e36 := F22.ev 36 rfl; have g36 := F22.get 36 _ rfl
            go_simp; try with_reducible rfl
          clear F22 a22
          refine kFin rfl ?_
          refine frNext ?_
          refine frCond (b := false) F23 rfl ?_
          simp only [Bool.false_eq_true, if_false]
          refine wp_skip ?_
          refine frNext ?_
          refine wp_seq ?_
          refine wp_lab ?_
          refine frNext ?_
          refine wp_seq ?_
          have F24 := F23.sub (l' := [(0, .pointer (some ⟨rb, 0, none⟩)), (2, .pointer (some ⟨RR, 0, none⟩)), (3, .pointer (some ⟨X, 0, none⟩))]) ⟨rfl, rfl, rfl, trivial⟩
          clear F23
          have hfin : tBt s = (btNil, s7) := by
            have hs7 := HS7.out
            have hz := HZ.out
            rw [HT.out]
            unfold btLook
            by_cases q : s5.2 = 0
            · rw [if_pos q]
              rcases hbr : bright ⟨x, y, z, l.map OpV.d⟩ with _ | _
              · rw [hbr] at hs7
                simp only [Bool.false_eq_true, if_false] at hs7 ⊢
                rw [hs7]
              · rw [hbr] at hs7
                simp only [if_true] at hs7
                exact absurd q (by rw [← hs7]; exact hz)
            · rw [if_neg q]
              have e7 : s7 = s5 := by
                rw [hs7]
                split
                · rfl
                · unfold rFail
                  rw [if_neg q]
              rw [e7]
          clear hz hz2
          have hww : wJ = wJ := rfl
          refine kGo ?_
          refine kTake (v := btv 0 0 0 none 0 0) F24 rfl rfl rfl rfl ?y25 (fun a25 F25 => ?h25)
          case y25 =>
            skip
            go_simp; try with_reducible rfl
          clear F24 a23
          refine kStore (w' := outB wJ RR 0 0 0 none 0 0) F25 rfl rfl rfl ?y26 (fun a26 F26 => ?h26)
          case y26 =>
            unfold outB; have q := T.r.cs; have y0 := q.c0; have y1 := q.c1; have y2 := q.c2; have y3 := q.c3; clear q; have f0 := T.r.fz 0; have f1 := T.r.fz 1; have f2 := T.r.fz 2; have f3 := T.r.fz 3; have e2 := F25.ev 2 rfl; have g2 := F25.get 2 _ rfl; have e39 := F25.ev 39 rfl; have g39 := F25.get 39 _ rfl
            go_simp; try with_reducible rfl
          clear F25 a25
          refine kFin rfl ?_
          obtain ⟨TO, TR, TG, TS⟩ := T.out 0 0 0 none 0 0
          clear T
          generalize outB wJ RR 0 0 0 none 0 0 = wO at *
          refine frNext ?_
          refine wp_ret ?_
          refine frJR ?_
          refine frRetC rfl F26 rfl (v := btv 0 0 0 none 0 0) ?yl ?_
          case yl =>
            have q := TO.cs; have y0 := q.c0; have y1 := q.c1; have y2 := q.c2; have y3 := q.c3; clear q
            go_simp; try with_reducible rfl
          have hRR := HRR.out
          subst hRR
          rw [hfin]
          exact ⟨none, 0, 0, [], rfl, ⟨IsOps.nil _, rfl⟩, TR, TG, (fun a ha => by cases ha), (fun p hp => by cases hp)⟩
        · skip
          replace hz : s7.2 = 0 := by omega
          have hz2 : (s7.2 == 0) = true := by simp [hz]
          have HZ := hid hz
          refine kTake (v := .bool true) F22 rfl rfl rfl rfl ?y27 (fun a27 F27 => ?h27)
          case y27 =>
            have e36 := F22.ev 36 rfl; have g36 := F22.get 36 _ rfl
            go_simp; try with_reducible rfl
          clear F22 a22
          refine kFin rfl ?_
          refine frNext ?_
          refine frCond (b := true) F27 rfl ?_
          simp only [if_true]
          refine wp_seq ?_
          clear hz hz2
          refine kGo ?_
          refine kTake (v := btv x y z A n c) F27 rfl rfl rfl rfl ?y28 (fun a28 F28 => ?h28)
          case y28 =>
            have q := T.x.cs; have y0 := q.c0; have y1 := q.c1; have y2 := q.c2; have y3 := q.c3; clear q; have e3 := F27.ev 3 rfl; have g3 := F27.get 3 _ rfl
            go_simp; try with_reducible rfl
          clear F27 a27
          refine kStore (w' := outB wJ RR x y z A n c) F28 rfl rfl rfl ?y29 (fun a29 F29 => ?h29)
          case y29 =>
            unfold outB; have q := T.r.cs; have y0 := q.c0; have y1 := q.c1; have y2 := q.c2; have y3 := q.c3; clear q; have f0 := T.r.fz 0; have f1 := T.r.fz 1; have f2 := T.r.fz 2; have f3 := T.r.fz 3; have e2 := F28.ev 2 rfl; have g2 := F28.get 2 _ rfl; have e38 := F28.ev 38 rfl; have g38 := F28.get 38 _ rfl
            go_simp; try with_reducible rfl
          clear F28 a28
          refine kFin rfl ?_
          have hf1 := fun (a : Addr) (ha : A = some a) => (T.row.lt a.block (by subst ha; rfl)).1
          have hf2 := fun (p : OpV) (hp : p ∈ l) (a : Addr) (ha : p.A = some a) => (T.far2 p hp a ha).1
          obtain ⟨TO, TR, TG, TS⟩ := T.out x y z A n c
          clear T
          generalize outB wJ RR x y z A n c = wO at *
          refine frNext ?_
          refine wp_ret ?_
          refine frThenRet ?_
          refine frJR ?_
          refine frRetC rfl F29 rfl (v := btv x y z A n c) ?yl ?_
          case yl =>
            have q := TO.cs; have y0 := q.c0; have y1 := q.c1; have y2 := q.c2; have y3 := q.c3; clear q
            go_simp; try with_reducible rfl
          have hfin : tBt s = (⟨x, y, z, l.map OpV.d⟩, s7) := by
            have hs7 := HS7.out
            have hz := HZ.out
            rw [HT.out]
            unfold btLook
            rcases hbr : bright ⟨x, y, z, l.map OpV.d⟩ with _ | _
            · rw [hbr] at hs7
              simp only [Bool.false_eq_true, if_false] at hs7
              have := rFail_ne s5
              rw [← hs7, hz] at this
              simp at this
            · rw [hbr] at hs7
              simp only [if_true] at hs7 ⊢
              rw [if_pos (by rw [← hs7]; exact hz), hs7]
          have hRR := HRR.out
          subst hRR
          rw [hfin]
          exact ⟨A, n, c, l, rfl, ⟨TS, rfl⟩, TR, TG, hf1, hf2⟩
      refine wp_seq ?_
      refine kGo ?_
      refine kTake (v := btv x y z A n c) F20 rfl rfl rfl rfl ?y30 (fun a30 F30 => ?h30)
      case y30 =>
        have q := T.x.cs; have y0 := q.c0; have y1 := q.c1; have y2 := q.c2; have y3 := q.c3; clear q; have e3 := F20.ev 3 rfl; have g3 := F20.get 3 _ rfl
        go_simp; try with_reducible rfl
      clear F20 a18
      have HR2 := HG.out.grownR T.grown (by omega)
      have hbi : BtIs wL ⟨x, y, z, l.map OpV.d⟩ A n c l := ⟨T.ops, rfl⟩
      refine kCall F30 rfl rfl rfl rfl (BRight_any ⟨x, y, z, l.map OpV.d⟩ A n c l _ hbi HR2) ?y31 ?h31
      case y31 =>
        have e30 := F30.ev 30 rfl; have g30 := F30.get 30 _ rfl
        go_simp; try with_reducible rfl
      rintro e wN ⟨rfl, hb'⟩
      replace T := T.below hb'
      clear hb' HR2 hbi
      rcases hor : bright ⟨x, y, z, l.map OpV.d⟩ with _ | _
      · skip
        refine ⟨_, rfl, fun a31 F31 => ?_⟩
        clear F30 a30
        refine kMove F31 rfl rfl rfl rfl rfl (fun a32 F32 => ?_)
        clear F31 a31
        refine kFin rfl ?_
        refine frNext ?_
        refine frCond (b := true) F32 rfl ?_
        simp only [if_true]
        have F33 := F32.sub (l' := [(0, .pointer (some ⟨rb, 0, none⟩)), (2, .pointer (some ⟨RR, 0, none⟩)), (3, .pointer (some ⟨X, 0, none⟩))]) ⟨rfl, rfl, rfl, trivial⟩
        clear F32
        refine kGo ?_
        refine kMove F33 rfl rfl rfl rfl rfl (fun a34 F34 => ?_)
        clear F33 a32
        refine kCall F34 rfl rfl rfl rfl (Fail_r base rb s5 21 _ T.rdr) ?y35 ?h35
        case y35 =>
          have e33 := F34.ev 33 rfl; have g33 := F34.get 33 _ rfl
          go_simp; try with_reducible rfl
        rintro e wN ⟨rfl, hr, hg⟩
        replace T := T.rd hr hg
        clear hr hg
        refine ⟨_, rfl, fun a35 F35 => ?_⟩
        clear F34 a34
        have F36 := F35.sub (l' := [(0, .pointer (some ⟨rb, 0, none⟩)), (2, .pointer (some ⟨RR, 0, none⟩)), (3, .pointer (some ⟨X, 0, none⟩))]) ⟨rfl, rfl, rfl, trivial⟩
        clear F35
        refine kFin rfl ?_
        exact J1 _ _ _ F36 T (by rw [hor]; rfl)
      · skip
        refine ⟨_, rfl, fun a31 F31 => ?_⟩
        clear F30 a30
        refine kMove F31 rfl rfl rfl rfl rfl (fun a37 F37 => ?_)
        clear F31 a31
        refine kFin rfl ?_
        refine frNext ?_
        refine frCond (b := false) F37 rfl ?_
        simp only [Bool.false_eq_true, if_false]
        refine wp_skip ?_
        have F38 := F37.sub (l' := [(0, .pointer (some ⟨rb, 0, none⟩)), (2, .pointer (some ⟨RR, 0, none⟩)), (3, .pointer (some ⟨X, 0, none⟩))]) ⟨rfl, rfl, rfl, trivial⟩
        clear F37
        exact J1 _ _ _ F38 T (by rw [hor]; rfl)
    · skip
      refine kGo ?_
      refine kMove FL rfl rfl rfl rfl rfl (fun a39 F39 => ?_)
      clear FL aL
      refine kTake (v := .bool true) F39 rfl rfl rfl rfl ?y40 (fun a40 F40 => ?h40)
      case y40 =>
        have e15 := F39.ev 15 rfl; have g15 := F39.get 15 _ rfl
        first | (go_simp; done) | (go_simp; omega)
      clear F39 a39
      have F41 := F40.sub (l' := [(0, .pointer (some ⟨rb, 0, none⟩)), (2, .pointer (some ⟨RR, 0, none⟩)), (3, .pointer (some ⟨X, 0, none⟩)), (4, .int .i64 ((k + 1 : Nat) : Int)), (16, .bool true)]) ⟨rfl, rfl, rfl, rfl, rfl, trivial⟩
      clear F40
      refine kFin rfl ?_
      refine frNext ?_
      refine frCond (b := true) F41 rfl ?_
      simp only [if_true]
      refine wp_skip ?_
      refine frNext ?_
      refine wp_seq ?_
      refine frBlock ?_
      refine wp_seq ?_
      rcases ht : tOp sk with ⟨d, sn⟩
      have HTO := hid ht
      clear ht
      have HR2 := HG.out.grownR T.grown (by omega)
      have hc := OTake_e base rb sk _ T.rdr HR2 hb
      rw [HTO.out] at hc
      dsimp only at hc
      have hxl := T.x.lt
      have hrl := T.r.lt
      have hsz := T.size2
      have hol := T.row.lt
      refine kGo ?_
      refine kMove F41 rfl rfl rfl rfl rfl (fun a42 F42 => ?_)
      clear F41 a40
      refine kCall F42 rfl rfl rfl rfl (hc) ?y43 ?h43
      case y43 =>
        have e19 := F42.ev 19 rfl; have g19 := F42.get 19 _ rfl
        go_simp; try with_reducible rfl
      rintro e w6 ⟨Ay, ny, cy, rfl, DY, hYa, hr, hg⟩
      replace T := T.rd hr hg
      clear hr hg HR2
      have hYb : ∀ a, Ay = some a → w.heap.size ≤ a.block ∧ a.block < w6.heap.size ∧ a.block ≠ X ∧ a.block ≠ RR ∧ (Value.slice A n c).ownBlock ≠ some a.block := fun a ha => by
        obtain ⟨q1, q2⟩ := hYa a ha
        refine ⟨by omega, q2, by omega, by omega, fun e => ?_⟩
        have := (hol a.block e).2
        omega
      clear hYa hxl hrl hsz hol
      refine ⟨_, rfl, fun a43 F43 => ?_⟩
      clear F42 a42
      refine kVal (v := ?v44) (w' := w6.alloc (oo ⟨0, 0, 0, 0, 0, ⟨#[]⟩, [], 0, 0, 0, ⟨#[]⟩, false⟩ none 0 0)) F43 rfl rfl rfl rfl ?y44 (fun a44 F44 => ?h44)
      case y44 =>
        skip
        go_simp
        all_goals (first | with_reducible rfl | (constructor <;> first | with_reducible rfl | rfl) | skip)
      clear F43 a43
      refine kStore (w' := w6.alloc (oo d Ay ny cy)) F44 rfl rfl rfl ?y45 (fun a45 F45 => ?h45)
      case y45 =>
        have e5 := F44.ev 5 rfl; have g5 := F44.get 5 _ rfl; have e20 := F44.ev 20 rfl; have g20 := F44.get 20 _ rfl
        go_simp; try with_reducible rfl
      clear F44 a44
      have hb' := below_alloc1 w6 (oo d Ay ny cy)
      have OP := OAt.new w6 d Ay ny cy _ rfl
      replace T := T.below hb'
      replace DY := DY.below hb'
      replace hYb : ∀ a, Ay = some a → w.heap.size ≤ a.block ∧ a.block < (w6.alloc (oo d Ay ny cy)).heap.size ∧ a.block ≠ X ∧ a.block ≠ RR ∧ (Value.slice A n c).ownBlock ≠ some a.block := fun a ha => by
        obtain ⟨q1, q2, q3⟩ := hYb a ha
        exact ⟨q1, Nat.lt_of_lt_of_le q2 hb'.size, q3⟩
      clear hb' hc
      generalize hbx : w6.heap.size = bx at *
      clear hbx
      generalize w6.alloc (oo d Ay ny cy) = w7 at *
      have F46 := F45.sub (l' := [(0, .pointer (some ⟨rb, 0, none⟩)), (2, .pointer (some ⟨RR, 0, none⟩)), (3, .pointer (some ⟨X, 0, none⟩)), (4, .int .i64 ((k + 1 : Nat) : Int)), (5, .pointer (some ⟨bx, 0, none⟩))]) ⟨rfl, rfl, rfl, rfl, rfl, trivial⟩
      clear F45
      refine kFin rfl ?_
      refine frNext ?_
      refine wp_seq ?_
      refine wp_seq ?_
      refine kGo ?_
      refine kMove F46 rfl rfl rfl rfl rfl (fun a47 F47 => ?_)
      clear F46 a45
      refine kCall F47 rfl rfl rfl rfl (Err_r base rb sn _ T.rdr) ?y48 ?h48
      case y48 =>
        have e21 := F47.ev 21 rfl; have g21 := F47.get 21 _ rfl
        go_simp; try with_reducible rfl
      rintro e wN ⟨rfl, rfl⟩
      refine ⟨_, rfl, fun a48 F48 => ?_⟩
      clear F47 a47
      by_cases hz : ¬ sn.2 = 0
      · skip
        have hz2 : (sn.2 == 0) = false := by simp [hz]
        have HZ := hid hz
        refine kTake (v := .bool true) F48 rfl rfl rfl rfl ?y49 (fun a49 F49 => ?h49)
        case y49 =>
          have e22 := F48.ev 22 rfl; have g22 := F48.get 22 _ rfl
          go_simp; try with_reducible rfl
        clear F48 a48
        refine kFin rfl ?_
        refine frNext ?_
        refine frCond (b := true) F49 rfl ?_
        simp only [if_true]
        refine frGoto ?_
        refine frThenG ?_
        refine frBlkG ?_
        refine frThenG ?_
        refine frThenG ?_
        refine frBlkG ?_
        refine frThenG ?_
        refine frJG ?_
        refine wp_seq ?_
        refine wp_skip ?_
        refine frNext ?_
        refine wp_seq ?_
        have hfin : tBt s = (btNil, sn) := by
          have hz := HZ.out
          have h5 : s5 = sn := by
            have := congrArg Prod.snd HEQ.out
            simp only [rOps, HTO.out, if_neg hz] at this
            exact this
          rw [HT.out]
          unfold btLook
          rw [h5, if_neg hz]
        clear hz hz2
        have F50 := F49.sub (l' := [(0, .pointer (some ⟨rb, 0, none⟩)), (2, .pointer (some ⟨RR, 0, none⟩)), (3, .pointer (some ⟨X, 0, none⟩))]) ⟨rfl, rfl, rfl, trivial⟩
        clear F49
        refine kGo ?_
        refine kTake (v := btv 0 0 0 none 0 0) F50 rfl rfl rfl rfl ?y51 (fun a51 F51 => ?h51)
        case y51 =>
          skip
          go_simp; try with_reducible rfl
        clear F50 a49
        refine kStore (w' := outB w7 RR 0 0 0 none 0 0) F51 rfl rfl rfl ?y52 (fun a52 F52 => ?h52)
        case y52 =>
          unfold outB; have q := T.r.cs; have y0 := q.c0; have y1 := q.c1; have y2 := q.c2; have y3 := q.c3; clear q; have f0 := T.r.fz 0; have f1 := T.r.fz 1; have f2 := T.r.fz 2; have f3 := T.r.fz 3; have e2 := F51.ev 2 rfl; have g2 := F51.get 2 _ rfl; have e39 := F51.ev 39 rfl; have g39 := F51.get 39 _ rfl
          go_simp; try with_reducible rfl
        clear F51 a51
        refine kFin rfl ?_
        obtain ⟨TO, TR, TG, TS⟩ := T.out 0 0 0 none 0 0
        clear T
        generalize outB w7 RR 0 0 0 none 0 0 = wO at *
        refine frNext ?_
        refine wp_ret ?_
        refine frNG ?_
        refine frRetC rfl F52 rfl (v := btv 0 0 0 none 0 0) ?yl ?_
        case yl =>
          have q := TO.cs; have y0 := q.c0; have y1 := q.c1; have y2 := q.c2; have y3 := q.c3; clear q
          go_simp; try with_reducible rfl
        have hRR := HRR.out
        subst hRR
        rw [hfin]
        exact ⟨none, 0, 0, [], rfl, ⟨IsOps.nil _, rfl⟩, TR, TG, (fun a ha => by cases ha), (fun p hp => by cases hp)⟩
      · skip
        replace hz : sn.2 = 0 := by omega
        have hz2 : (sn.2 == 0) = true := by simp [hz]
        have HZ := hid hz
        refine kTake (v := .bool false) F48 rfl rfl rfl rfl ?y53 (fun a53 F53 => ?h53)
        case y53 =>
          have e22 := F48.ev 22 rfl; have g22 := F48.get 22 _ rfl
          go_simp; try with_reducible rfl
        clear F48 a48
        refine kFin rfl ?_
        refine frNext ?_
        refine frCond (b := false) F53 rfl ?_
        simp only [Bool.false_eq_true, if_false]
        refine wp_skip ?_
        refine frNext ?_
        clear hz hz2
        refine kGo ?_
        refine kTake (v := ?v54) F53 rfl rfl rfl rfl ?y54 (fun a54 F54 => ?h54)
        case y54 =>
          have e3 := F53.ev 3 rfl; have g3 := F53.get 3 _ rfl
          go_simp; try with_reducible rfl
        clear F53 a53
        refine kTake (v := ?v55) F54 rfl rfl rfl rfl ?y55 (fun a55 F55 => ?h55)
        case y55 =>
          have q := T.x.cs; have y0 := q.c0; have y1 := q.c1; have y2 := q.c2; have y3 := q.c3; clear q; have e24 := F54.ev 24 rfl; have g24 := F54.get 24 _ rfl
          go_simp; try with_reducible rfl
        clear F54 a54
        refine kTake (v := opv d Ay ny cy) F55 rfl rfl rfl rfl ?y56 (fun a56 F56 => ?h56)
        case y56 =>
          have q := OP.cs; have y0 := q.c0; have y1 := q.c1; have y2 := q.c2; have y3 := q.c3; have y4 := q.c4; have y5 := q.c5; have y6 := q.c6; have y7 := q.c7; have y8 := q.c8; have y9 := q.c9; have y10 := q.c10; have y11 := q.c11; clear q; have e5 := F55.ev 5 rfl; have g5 := F55.get 5 _ rfl
          go_simp; try with_reducible rfl
        clear F55 a55
        refine kVal (v := ?v57) (w' := w7.alloc (oo d Ay ny cy)) F56 rfl rfl rfl rfl ?y57 (fun a57 F57 => ?h57)
        case y57 =>
          have e26 := F56.ev 26 rfl; have g26 := F56.get 26 _ rfl
          go_simp
          all_goals (first | with_reducible rfl | (constructor <;> first | with_reducible rfl | rfl) | skip)
        clear F56 a56
        have hb' := below_alloc1 w7 (oo d Ay ny cy)
        have hcell := ov_new w7 ⟨d, Ay, ny, cy⟩ 35
        replace T := T.below hb'
        replace DY := DY.below hb'
        replace hYb : ∀ a, Ay = some a → w.heap.size ≤ a.block ∧ a.block < (w7.alloc (oo d Ay ny cy)).heap.size ∧ a.block ≠ X ∧ a.block ≠ RR ∧ (Value.slice A n c).ownBlock ≠ some a.block := fun a ha => by
          obtain ⟨q1, q2, q3⟩ := hYb a ha
          exact ⟨q1, Nat.lt_of_lt_of_le q2 hb'.size, q3⟩
        clear hb' OP
        generalize w7.alloc (oo d Ay ny cy) = w8 at *
        refine kAppA (p := noB) w.heap.size F57 rfl rfl rfl rfl rfl Tryd.underlying62 info_op rfl (by omega) (by omega) (n := n) (m := 1) rfl rfl T.row hcell rfl (ov_one _) T.size2 (by omega) T.nob (by intro u hu n e; subst e; simp [Value.cells] at hu) (noB_ov _) (noB_ov _) ?_
        intro v9 w9 hrow hnob hg hat a58 F58
        clear F57 a57
        obtain ⟨A9, c9, rfl, -, -, -, -⟩ := owns_form hrow
        obtain ⟨hX, T6⟩ := T.more ⟨d, Ay, ny, cy⟩ DY hYb hg hrow hnob hat
        clear T hg hrow hnob hat hcell hYb DY
        have T := T6
        clear T6
        refine kTake (v := ?v59) F58 rfl rfl rfl rfl ?y59 (fun a59 F59 => ?h59)
        case y59 =>
          have e3 := F58.ev 3 rfl; have g3 := F58.get 3 _ rfl
          go_simp; try with_reducible rfl
        clear F58 a58
        refine kStore (w' := w9.setCell ⟨X, 3, none⟩ (.slice A9 (n + 1) c9)) F59 rfl rfl rfl ?y60 (fun a60 F60 => ?h60)
        case y60 =>
          have q := hX.cs; have y3 := q.c3; clear q; have f3 := hX.fz 3; have e28 := F59.ev 28 rfl; have g28 := F59.get 28 _ rfl; have e29 := F59.ev 29 rfl; have g29 := F59.get 29 _ rfl
          go_simp; try with_reducible rfl
        clear F59 a59
        have F61 := F60.sub (l' := [(0, .pointer (some ⟨rb, 0, none⟩)), (2, .pointer (some ⟨RR, 0, none⟩)), (3, .pointer (some ⟨X, 0, none⟩)), (4, .int .i64 ((k + 1 : Nat) : Int))]) ⟨rfl, rfl, rfl, rfl, trivial⟩
        clear F60
        refine kFin rfl ?_
        refine frBlkN ?_
        refine frNext ?_
        refine kGo ?_
        refine kMove F61 rfl rfl rfl rfl rfl (fun a62 F62 => ?_)
        clear F61 a60
        refine kTake (v := .int .i64 (k : Int)) F62 rfl rfl rfl rfl ?y63 (fun a63 F63 => ?h63)
        case y63 =>
          have e17 := F62.ev 17 rfl; have g17 := F62.get 17 _ rfl
          first | (go_simp; done) | (go_simp; simp only [IntKind.wrap_i64]; omega)
        clear F62 a62
        refine kMove F63 rfl rfl rfl rfl rfl (fun a64 F64 => ?_)
        clear F63 a63
        have F65 := F64.sub (l' := [(0, .pointer (some ⟨rb, 0, none⟩)), (2, .pointer (some ⟨RR, 0, none⟩)), (3, .pointer (some ⟨X, 0, none⟩)), (4, .int .i64 (k : Int))]) ⟨rfl, rfl, rfl, rfl, trivial⟩
        clear F64
        refine kFin rfl ?_
        have heq2 : (L, s5) = ((l ++ [(⟨d, Ay, ny, cy⟩ : OpV)]).map OpV.d ++ (rOps k sn).1, (rOps k sn).2) := by
          rw [HEQ.out]
          simp only [rOps, HTO.out, if_pos HZ.out, List.map_append, List.map_cons, List.map_nil, List.append_assoc, List.cons_append, List.nil_append]
        refine frThenN ⟨⟨k, sn, A9, n + 1, c9, _, by omega, F65, T, heq2⟩, ?_⟩
        rw [show intOf (a64.tmps.getD 4 undef) = (k : Int) by rw [F65.ev 4 rfl]; rfl]
        omega
end Go.Proofs.YtnakanophilfhaaDoor
/- BtG: Layer 8: a batch out of a frame. -/
namespace Go.Proofs.YtnakanophilfhaaDoor
open Go.RowKit Go.Dio
set_option linter.unusedVariables false
set_option linter.unusedSimpArgs false

theorem frRet3C {P : Program} {fn : Func} {R : Ending → World → Prop} {a : Act} {w : World} {N t u v : Nat} {T : TypeId} {l : List (Nat × Value)} {ad : Addr} {x y z : Value} (hr : fn.results = #[.cell t T, .tmp u, .tmp v]) (F : Fr a N l) (ht : look l t = some (.pointer (some ad)))
    (hl : (loadVar T ad).run P w = .ok x w) (hu : look l u = some y) (hv : look l v = some z) (h : R (.returned (.tuple #[x, y, z])) w) : bodyPost P fn R .ret a w :=
  ⟨F.nod, _, by simp [results, hr, F.get t _ ht, F.get u _ hu, F.get v _ hv, asAddr, hl], h⟩
/-- What bytes tell as a framed batch: the batch, how many bytes, an error. -/
def unfB (xs : List UInt8) : BtD × Int × Int :=
  if (unfL xs).2.2 = 0 then (if rDone (tBt ((unfL xs).1, 0)).2 = 0 ∧ bright (tBt ((unfL xs).1, 0)).1 = true then ((tBt ((unfL xs).1, 0)).1, ((unfL xs).2.1 : Int), 0) else (btNil, 0, 21)) else (btNil, 0, ((unfL xs).2.2 : Int))
theorem unfB_frame (b : BtD) (u : List UInt8) (h : bright b = true) : unfB (frameB (btB b) ++ u) = (b, ((frameB (btB b)).length : Int), 0) := by
  have e1 := unfL_frameB (btB b) u (by have := btB_le h; omega)
  have e2 := tBt_btB b [] h
  rw [List.append_nil] at e2
  unfold unfB
  simp only [e1, e2, if_true, h, and_true]
  rw [if_pos (by rfl)]
theorem unfL_len (xs i : List UInt8) (k : Nat) (h : unfL xs = (i, k, 0)) : i.length ≤ 1048576 := by
  unfold unfL at h
  split at h
  · cases h
  · split at h
    · cases h
    · rename_i c t _
      rcases hn : numL t with ⟨n, kk, e⟩
      rw [hn] at h
      dsimp only at h
      split at h
      · rename_i q
        simp only [Prod.mk.injEq] at h
        exact absurd h.2.2 q
      · split at h
        · cases h
        · split at h
          · cases h
          · split at h
            · cases h
            · rename_i q1 _ _
              simp only [Prod.mk.injEq] at h
              rw [← h.1, List.length_take]
              omega
theorem BtIs.moveR {w : World} {b : BtD} {A : Option Addr} {n c : Nat} {l : List OpV} {R B : Nat} (h : BtIs w b A n c l) (h1 : ∀ a, A = some a → B ≤ a.block) (h2 : ∀ p ∈ l, ∀ a, p.A = some a → B ≤ a.block) (hR : R < B) (x y z : Int) (A' : Option Addr) (n' c' : Nat) : BtIs (outB w R x y z A' n' c') b A n c l :=
  ⟨⟨h.ops.len, h.ops.cap, h.ops.max, h.ops.cells.move fun a ha => outB_other w R x y z A' n' c' _ (by have := h1 a ha; omega), fun p hp => (h.ops.each p hp).move fun a ha => outB_other w R x y z A' n' c' _ (by have := h2 p hp a ha; omega)⟩, h.eq⟩
set_option maxRecDepth 100000 in
set_option maxHeartbeats 4000000 in
theorem BUnframe_any (A : Option Addr) (n c : Nat) (xs : List UInt8) (w : World) (h : IsB w A n c xs) (hg : RootsAt w) :
    Calls Tryd.prog 43 #[.slice A n c] w fun e w' => ∃ A' n' c' l, e = .returned (.tuple #[btv (unfB xs).1.rep (unfB xs).1.seq (unfB xs).1.time A' n' c', .int .i64 (unfB xs).2.1, .int .i64 (unfB xs).2.2]) ∧ BtIs w' (unfB xs).1 A' n' c' l ∧ Below w.heap.size w w' := by
  rcases hU : unfL xs with ⟨i, k, er⟩
  have HUL := hid (show er = 0 → i.length ≤ 1048576 from fun e => unfL_len xs i k (by rw [hU, e]))
  rcases hT : tBt (i, 0) with ⟨b, s'⟩
  have HT := hid hT
  have HX := hid (show unfB xs = if er = 0 then (if rDone s' = 0 ∧ bright b = true then (b, (k : Int), 0) else (btNil, 0, 21)) else (btNil, 0, (er : Int)) by simp only [unfB, hU, hT])
  have HU := hid hU
  clear hU hT
  have HB := Below.refl w.heap.size w
  have HB0 := hg
  refine frCall (args := [.slice A n c]) (N := 33) Tryd.func43 rfl rfl rfl (fun a0 F0 => ?_)
  refine wp_seq ?_
  refine kGo ?_
  refine kVal (v := ?v1) (w' := w.alloc (bto 0 0 0 none 0 0)) F0 rfl rfl rfl rfl ?y1 (fun a1 F1 => ?h1)
  case y1 =>
    skip
    go_simp
    all_goals (first | with_reducible rfl | (constructor <;> first | with_reducible rfl | rfl) | skip)
  clear F0 a0
  refine kMove F1 rfl rfl rfl rfl rfl (fun a2 F2 => ?_)
  clear F1 a1
  refine kMove F2 rfl rfl rfl rfl rfl (fun a3 F3 => ?_)
  clear F2 a2
  have hb := below_alloc1 w (bto 0 0 0 none 0 0)
  have OR := BAt.new w 0 0 0 none 0 0 _ rfl
  replace hg := hg.below hb
  replace h := h.below hb
  replace HB := below_then HB hb
  clear hb
  generalize w.alloc (bto 0 0 0 none 0 0) = w1 at *
  have F4 := F3.sub (l' := [(0, .slice A n c), (2, .pointer (some ⟨w.heap.size, 0, none⟩))]) ⟨rfl, rfl, trivial⟩
  clear F3
  refine kFin rfl ?_
  refine frNext ?_
  refine wp_seq ?_
  refine kGo ?_
  refine kMove F4 rfl rfl rfl rfl rfl (fun a5 F5 => ?_)
  clear F4 a3
  have hc := Unframe_any A n c xs _ h
  rw [HU.out] at hc
  dsimp only at hc
  refine kCall F5 rfl rfl rfl rfl (hc) ?y6 ?h6
  case y6 =>
    have e9 := F5.ev 9 rfl; have g9 := F5.get 9 _ rfl
    go_simp; try with_reducible rfl
  rintro e w2 ⟨v, rfl, ho, hb⟩
  obtain ⟨Ai, ni, ci, rfl, hI, -⟩ := ho.form
  have hIl := hI.len
  clear ho hc h
  replace hg := hg.below hb
  replace OR := OR.below hb
  replace HB := below_then HB hb
  clear hb
  refine ⟨_, rfl, fun a6 F6 => ?_⟩
  clear F5 a5
  refine kMove F6 rfl rfl rfl rfl rfl (fun a7 F7 => ?_)
  clear F6 a6
  refine kMove F7 rfl rfl rfl rfl rfl (fun a8 F8 => ?_)
  clear F7 a7
  refine kMove F8 rfl rfl rfl rfl rfl (fun a9 F9 => ?_)
  clear F8 a8
  refine kMove F9 rfl rfl rfl rfl rfl (fun a10 F10 => ?_)
  clear F9 a9
  refine kMove F10 rfl rfl rfl rfl rfl (fun a11 F11 => ?_)
  clear F10 a10
  refine kMove F11 rfl rfl rfl rfl rfl (fun a12 F12 => ?_)
  clear F11 a11
  refine kMove F12 rfl rfl rfl rfl rfl (fun a13 F13 => ?_)
  clear F12 a12
  have F14 := F13.sub (l' := [(2, .pointer (some ⟨w.heap.size, 0, none⟩)), (5, .slice Ai ni ci), (6, .int .i64 (k : Int)), (4, .int .i64 (er : Int))]) ⟨rfl, rfl, rfl, rfl, trivial⟩
  clear F13
  refine kFin rfl ?_
  refine frNext ?_
  refine wp_seq ?_
  refine wp_seq ?_
  refine kGo ?_
  refine kMove F14 rfl rfl rfl rfl rfl (fun a15 F15 => ?_)
  clear F14 a13
  by_cases he : ¬ er = 0
  · skip
    have hx : unfB xs = (btNil, 0, (er : Int)) := by rw [HX.out, if_neg he]
    have hze : ((er : Int) == 0) = false := by simp; omega
    refine kTake (v := .bool true) F15 rfl rfl rfl rfl ?y16 (fun a16 F16 => ?h16)
    case y16 =>
      have e14 := F15.ev 14 rfl; have g14 := F15.get 14 _ rfl
      first | (go_simp; done) | (go_simp; omega)
    clear F15 a15
    refine kFin rfl ?_
    refine frNext ?_
    refine frCond (b := true) F16 rfl ?_
    simp only [if_true]
    refine wp_seq ?_
    clear he hze
    refine kGo ?_
    refine kTake (v := btv 0 0 0 none 0 0) F16 rfl rfl rfl rfl ?y17 (fun a17 F17 => ?h17)
    case y17 =>
      skip
      go_simp; try with_reducible rfl
    clear F16 a16
    refine kMove F17 rfl rfl rfl rfl rfl (fun a18 F18 => ?_)
    clear F17 a17
    refine kStore (w' := outB w2 w.heap.size 0 0 0 none 0 0) F18 rfl rfl rfl ?y19 (fun a19 F19 => ?h19)
    case y19 =>
      unfold outB; have q := OR.cs; have y0 := q.c0; have y1 := q.c1; have y2 := q.c2; have y3 := q.c3; clear q; have f0 := OR.fz 0; have f1 := OR.fz 1; have f2 := OR.fz 2; have f3 := OR.fz 3; have e2 := F18.ev 2 rfl; have g2 := F18.get 2 _ rfl; have e16 := F18.ev 16 rfl; have g16 := F18.get 16 _ rfl
      go_simp; try with_reducible rfl
    clear F18 a18
    refine kMove F19 rfl rfl rfl rfl rfl (fun a20 F20 => ?_)
    clear F19 a19
    refine kMove F20 rfl rfl rfl rfl rfl (fun a21 F21 => ?_)
    clear F20 a20
    refine kFin rfl ?_
    have OO := OR.set4 0 0 0 none 0 0
    replace HB := HB.grown (outB_grown w2 w.heap.size 0 0 0 none 0 0) HB.size (fun q hq => by cases hq; exact Nat.le_refl _)
    generalize outB w2 w.heap.size 0 0 0 none 0 0 = wO at *
    refine frNext ?_
    refine wp_ret ?_
    refine frThenRet ?_
    refine frRet3C rfl F21 rfl (x := btv 0 0 0 none 0 0) ?yl rfl rfl ?_
    case yl =>
      have q := OO.cs; have y0 := q.c0; have y1 := q.c1; have y2 := q.c2; have y3 := q.c3; clear q
      go_simp; try with_reducible rfl
    rw [hx]
    exact ⟨none, 0, 0, [], rfl, ⟨IsOps.nil _, rfl⟩, HB⟩
  obtain rfl : er = 0 := by omega
  have hil := HUL.out rfl
  clear he
  refine kTake (v := .bool false) F15 rfl rfl rfl rfl ?y22 (fun a22 F22 => ?h22)
  case y22 =>
    have e14 := F15.ev 14 rfl; have g14 := F15.get 14 _ rfl
    first | (go_simp; done) | (go_simp; omega)
  clear F15 a15
  refine kFin rfl ?_
  refine frNext ?_
  refine frCond (b := false) F22 rfl ?_
  simp only [Bool.false_eq_true, if_false]
  refine wp_skip ?_
  refine frNext ?_
  refine wp_seq ?_
  have F23 := F22.sub (l' := [(2, .pointer (some ⟨w.heap.size, 0, none⟩)), (5, .slice Ai ni ci), (6, .int .i64 (k : Int))]) ⟨rfl, rfl, rfl, trivial⟩
  clear F22
  refine kGo ?_
  refine kMove F23 rfl rfl rfl rfl rfl (fun a24 F24 => ?_)
  clear F23 a22
  refine kCall F24 rfl rfl rfl rfl (Open_any Ai ni ci i _ hI (by omega)) ?y25 ?h25
  case y25 =>
    have e18 := F24.ev 18 rfl; have g18 := F24.get 18 _ rfl
    go_simp; try with_reducible rfl
  rintro e w3 ⟨rb, rfl, hR, hbO⟩
  refine ⟨_, rfl, fun a25 F25 => ?_⟩
  clear F24 a24
  refine kMove F25 rfl rfl rfl rfl rfl (fun a26 F26 => ?_)
  clear F25 a25
  have F27 := F26.sub (l' := [(2, .pointer (some ⟨w.heap.size, 0, none⟩)), (6, .int .i64 (k : Int)), (7, .pointer (some ⟨rb, 0, none⟩))]) ⟨rfl, rfl, rfl, trivial⟩
  clear F26
  refine kFin rfl ?_
  refine frNext ?_
  refine wp_seq ?_
  refine wp_seq ?_
  refine kGo ?_
  refine kMove F27 rfl rfl rfl rfl rfl (fun a28 F28 => ?_)
  clear F27 a26
  have hc := BTake_any w2.heap.size rb (i, 0) _ hR (hg.below hbO) hg.two
  rw [HT.out] at hc
  dsimp only at hc
  have hol := OR.lt
  refine kCall F28 rfl rfl rfl rfl (hc) ?y29 ?h29
  case y29 =>
    have e20 := F28.ev 20 rfl; have g20 := F28.get 20 _ rfl
    go_simp; try with_reducible rfl
  rintro e w4 ⟨Ay, ny, cy, ly, rfl, DY, hR4, hg4, hf1, hf2⟩
  have hb := hbO.grown hg4 hbO.size (fun q hq => by cases hq; exact hR.lo)
  have hs3 := hbO.size
  replace hf1 := fun a ha => Nat.le_trans hs3 (hf1 a ha)
  replace hf2 := fun p hp a ha => Nat.le_trans hs3 (hf2 p hp a ha)
  have hrb := hR.lo
  clear hg4 hbO hR hc hI
  replace hg := hg.below hb
  replace OR := OR.below hb
  replace HB := below_then HB hb
  clear hb
  refine ⟨_, rfl, fun a29 F29 => ?_⟩
  clear F28 a28
  refine kStore (w' := outB w4 w.heap.size b.rep b.seq b.time Ay ny cy) F29 rfl rfl rfl ?y30 (fun a30 F30 => ?h30)
  case y30 =>
    unfold outB; have q := OR.cs; have y0 := q.c0; have y1 := q.c1; have y2 := q.c2; have y3 := q.c3; clear q; have f0 := OR.fz 0; have f1 := OR.fz 1; have f2 := OR.fz 2; have f3 := OR.fz 3; have e2 := F29.ev 2 rfl; have g2 := F29.get 2 _ rfl; have e21 := F29.ev 21 rfl; have g21 := F29.get 21 _ rfl
    go_simp; try with_reducible rfl
  clear F29 a29
  have hR5 := hR4.other OR.own (bxs_noB 0 0 0 none 0 0) (by omega) (fun k hk _ => outB_other w4 w.heap.size b.rep b.seq b.time Ay ny cy k hk)
  have DY5 := DY.moveR hf1 hf2 hol b.rep b.seq b.time Ay ny cy
  have O5 := OR.set4 b.rep b.seq b.time Ay ny cy
  have hg5 : RootsAt (outB w4 w.heap.size b.rep b.seq b.time Ay ny cy) := hg.grown (outB_grown w4 w.heap.size b.rep b.seq b.time Ay ny cy) (by have := HB0.two; exact this)
  replace HB := HB.grown (outB_grown w4 w.heap.size b.rep b.seq b.time Ay ny cy) HB.size (fun q hq => by cases hq; exact Nat.le_refl _)
  have hsz5 := (outB_grown w4 w.heap.size b.rep b.seq b.time Ay ny cy).size
  clear OR DY hR4 hg
  have OR := O5
  have DY := DY5
  have hg := hg5
  clear O5 DY5 hg5
  generalize outB w4 w.heap.size b.rep b.seq b.time Ay ny cy = w5 at *
  have F31 := F30.sub (l' := [(2, .pointer (some ⟨w.heap.size, 0, none⟩)), (6, .int .i64 (k : Int)), (7, .pointer (some ⟨rb, 0, none⟩))]) ⟨rfl, rfl, rfl, trivial⟩
  clear F30
  refine kFin rfl ?_
  refine frNext ?_
  refine wp_seq ?_
  refine kGo ?_
  refine kMove F31 rfl rfl rfl rfl rfl (fun a32 F32 => ?_)
  clear F31 a30
  refine kCall F32 rfl rfl rfl rfl (Done_r _ rb s' _ hR5) ?y33 ?h33
  case y33 =>
    have e22 := F32.ev 22 rfl; have g22 := F32.get 22 _ rfl
    go_simp; try with_reducible rfl
  rintro e wN ⟨rfl, rfl⟩
  refine ⟨_, rfl, fun a33 F33 => ?_⟩
  clear F32 a32
  by_cases hd : ¬ rDone s' = 0
  · skip
    have hx : unfB xs = (btNil, 0, 21) := by rw [HX.out, if_pos rfl, if_neg (fun q => hd q.1)]
    have hze : (rDone s' == 0) = false := by simp [hd]
    clear HT
    refine kTake (v := .bool true) F33 rfl rfl rfl rfl ?y34 (fun a34 F34 => ?h34)
    case y34 =>
      have e23 := F33.ev 23 rfl; have g23 := F33.get 23 _ rfl
      first | (go_simp; done) | (go_simp; omega)
    clear F33 a33
    refine kMove F34 rfl rfl rfl rfl rfl (fun a35 F35 => ?_)
    clear F34 a34
    refine kNot F35 rfl rfl rfl rfl (fun a36 F36 => ?_)
    clear F35 a35
    refine kNot F36 rfl rfl rfl rfl (fun a37 F37 => ?_)
    clear F36 a36
    refine kNot F37 rfl rfl rfl rfl (fun a38 F38 => ?_)
    clear F37 a37
    refine kMove F38 rfl rfl rfl rfl rfl (fun a39 F39 => ?_)
    clear F38 a38
    refine kFin rfl ?_
    refine frNext ?_
    refine frCond (b := true) F39 rfl ?_
    simp only [if_true]
    refine wp_seq ?_
    clear hd hze
    refine kGo ?_
    refine kTake (v := btv 0 0 0 none 0 0) F39 rfl rfl rfl rfl ?y40 (fun a40 F40 => ?h40)
    case y40 =>
      skip
      go_simp; try with_reducible rfl
    clear F39 a39
    refine kStore (w' := outB w5 w.heap.size 0 0 0 none 0 0) F40 rfl rfl rfl ?y41 (fun a41 F41 => ?h41)
    case y41 =>
      unfold outB; have q := OR.cs; have y0 := q.c0; have y1 := q.c1; have y2 := q.c2; have y3 := q.c3; clear q; have f0 := OR.fz 0; have f1 := OR.fz 1; have f2 := OR.fz 2; have f3 := OR.fz 3; have e2 := F40.ev 2 rfl; have g2 := F40.get 2 _ rfl; have e30 := F40.ev 30 rfl; have g30 := F40.get 30 _ rfl
      go_simp; try with_reducible rfl
    clear F40 a40
    refine kMove F41 rfl rfl rfl rfl rfl (fun a42 F42 => ?_)
    clear F41 a41
    refine kMove F42 rfl rfl rfl rfl rfl (fun a43 F43 => ?_)
    clear F42 a42
    refine kFin rfl ?_
    have OO := OR.set4 0 0 0 none 0 0
    replace HB := HB.grown (outB_grown w5 w.heap.size 0 0 0 none 0 0) HB.size (fun q hq => by cases hq; exact Nat.le_refl _)
    generalize outB w5 w.heap.size 0 0 0 none 0 0 = wO at *
    refine frNext ?_
    refine wp_ret ?_
    refine frThenRet ?_
    refine frRet3C rfl F43 rfl (x := btv 0 0 0 none 0 0) ?yl rfl rfl ?_
    case yl =>
      have q := OO.cs; have y0 := q.c0; have y1 := q.c1; have y2 := q.c2; have y3 := q.c3; clear q
      go_simp; try with_reducible rfl
    rw [hx]
    exact ⟨none, 0, 0, [], rfl, ⟨IsOps.nil _, rfl⟩, HB⟩
  replace hd : rDone s' = 0 := by omega
  have hze : (rDone s' == 0) = true := by simp [hd]
  have HD := hid hd
  refine kTake (v := .bool false) F33 rfl rfl rfl rfl ?y44 (fun a44 F44 => ?h44)
  case y44 =>
    have e23 := F33.ev 23 rfl; have g23 := F33.get 23 _ rfl
    first | (go_simp; done) | (go_simp; omega)
  clear F33 a33
  refine kMove F44 rfl rfl rfl rfl rfl (fun a45 F45 => ?_)
  clear F44 a44
  clear hd hze
  refine kTake (v := btv b.rep b.seq b.time Ay ny cy) F45 rfl rfl rfl rfl ?y46 (fun a46 F46 => ?h46)
  case y46 =>
    have q := OR.cs; have y0 := q.c0; have y1 := q.c1; have y2 := q.c2; have y3 := q.c3; clear q; have e2 := F45.ev 2 rfl; have g2 := F45.get 2 _ rfl
    go_simp; try with_reducible rfl
  clear F45 a45
  refine kCall F46 rfl rfl rfl rfl (BRight_any b Ay ny cy ly _ DY hg) ?y47 ?h47
  case y47 =>
    have e26 := F46.ev 26 rfl; have g26 := F46.get 26 _ rfl
    go_simp; try with_reducible rfl
  rintro e w6 ⟨rfl, hb⟩
  have hsz6 := hb.size
  replace hg := hg.below hb
  replace OR := OR.below hb
  replace DY := DY.below hb
  replace HB := below_then HB hb
  clear hb
  rcases hor : bright b with _ | _
  · skip
    refine ⟨_, rfl, fun a47 F47 => ?_⟩
    clear F46 a46
    have hx : unfB xs = (btNil, 0, 21) := by rw [HX.out, if_pos rfl, if_neg (fun q => by rw [hor] at q; simp at q)]
    clear HT
    refine kMove F47 rfl rfl rfl rfl rfl (fun a48 F48 => ?_)
    clear F47 a47
    refine kMove F48 rfl rfl rfl rfl rfl (fun a49 F49 => ?_)
    clear F48 a48
    refine kFin rfl ?_
    refine frNext ?_
    refine frCond (b := true) F49 rfl ?_
    simp only [if_true]
    refine wp_seq ?_
    clear hor
    refine kGo ?_
    refine kTake (v := btv 0 0 0 none 0 0) F49 rfl rfl rfl rfl ?y50 (fun a50 F50 => ?h50)
    case y50 =>
      skip
      go_simp; try with_reducible rfl
    clear F49 a49
    refine kStore (w' := outB w6 w.heap.size 0 0 0 none 0 0) F50 rfl rfl rfl ?y51 (fun a51 F51 => ?h51)
    case y51 =>
      unfold outB; have q := OR.cs; have y0 := q.c0; have y1 := q.c1; have y2 := q.c2; have y3 := q.c3; clear q; have f0 := OR.fz 0; have f1 := OR.fz 1; have f2 := OR.fz 2; have f3 := OR.fz 3; have e2 := F50.ev 2 rfl; have g2 := F50.get 2 _ rfl; have e30 := F50.ev 30 rfl; have g30 := F50.get 30 _ rfl
      go_simp; try with_reducible rfl
    clear F50 a50
    refine kMove F51 rfl rfl rfl rfl rfl (fun a52 F52 => ?_)
    clear F51 a51
    refine kMove F52 rfl rfl rfl rfl rfl (fun a53 F53 => ?_)
    clear F52 a52
    refine kFin rfl ?_
    have OO := OR.set4 0 0 0 none 0 0
    replace HB := HB.grown (outB_grown w6 w.heap.size 0 0 0 none 0 0) HB.size (fun q hq => by cases hq; exact Nat.le_refl _)
    generalize outB w6 w.heap.size 0 0 0 none 0 0 = wO at *
    refine frNext ?_
    refine wp_ret ?_
    refine frThenRet ?_
    refine frRet3C rfl F53 rfl (x := btv 0 0 0 none 0 0) ?yl rfl rfl ?_
    case yl =>
      have q := OO.cs; have y0 := q.c0; have y1 := q.c1; have y2 := q.c2; have y3 := q.c3; clear q
      go_simp; try with_reducible rfl
    rw [hx]
    exact ⟨none, 0, 0, [], rfl, ⟨IsOps.nil _, rfl⟩, HB⟩
  · skip
    refine ⟨_, rfl, fun a47 F47 => ?_⟩
    clear F46 a46
    have hx : unfB xs = (b, (k : Int), 0) := by rw [HX.out, if_pos rfl, if_pos ⟨HD.out, hor⟩]
    clear HT
    refine kMove F47 rfl rfl rfl rfl rfl (fun a54 F54 => ?_)
    clear F47 a47
    refine kMove F54 rfl rfl rfl rfl rfl (fun a55 F55 => ?_)
    clear F54 a54
    refine kFin rfl ?_
    refine frNext ?_
    refine frCond (b := false) F55 rfl ?_
    simp only [Bool.false_eq_true, if_false]
    refine wp_skip ?_
    refine frNext ?_
    refine wp_seq ?_
    clear hor
    refine kGo ?_
    refine kTake (v := btv b.rep b.seq b.time Ay ny cy) F55 rfl rfl rfl rfl ?y56 (fun a56 F56 => ?h56)
    case y56 =>
      have q := OR.cs; have y0 := q.c0; have y1 := q.c1; have y2 := q.c2; have y3 := q.c3; clear q; have e2 := F55.ev 2 rfl; have g2 := F55.get 2 _ rfl
      go_simp; try with_reducible rfl
    clear F55 a55
    refine kMove F56 rfl rfl rfl rfl rfl (fun a57 F57 => ?_)
    clear F56 a56
    refine kStore (w' := outB w6 w.heap.size b.rep b.seq b.time Ay ny cy) F57 rfl rfl rfl ?y58 (fun a58 F58 => ?h58)
    case y58 =>
      unfold outB; have q := OR.cs; have y0 := q.c0; have y1 := q.c1; have y2 := q.c2; have y3 := q.c3; clear q; have f0 := OR.fz 0; have f1 := OR.fz 1; have f2 := OR.fz 2; have f3 := OR.fz 3; have e2 := F57.ev 2 rfl; have g2 := F57.get 2 _ rfl; have e31 := F57.ev 31 rfl; have g31 := F57.get 31 _ rfl
      go_simp; try with_reducible rfl
    clear F57 a57
    refine kMove F58 rfl rfl rfl rfl rfl (fun a59 F59 => ?_)
    clear F58 a58
    refine kMove F59 rfl rfl rfl rfl rfl (fun a60 F60 => ?_)
    clear F59 a59
    refine kFin rfl ?_
    have OO := OR.set4 b.rep b.seq b.time Ay ny cy
    have DZ := DY.moveR hf1 hf2 hol b.rep b.seq b.time Ay ny cy
    replace HB := HB.grown (outB_grown w6 w.heap.size b.rep b.seq b.time Ay ny cy) HB.size (fun q hq => by cases hq; exact Nat.le_refl _)
    generalize outB w6 w.heap.size b.rep b.seq b.time Ay ny cy = wO at *
    refine frNext ?_
    refine wp_ret ?_
    refine frRet3C rfl F60 rfl (x := btv b.rep b.seq b.time Ay ny cy) ?yl rfl rfl ?_
    case yl =>
      have q := OO.cs; have y0 := q.c0; have y1 := q.c1; have y2 := q.c2; have y3 := q.c3; clear q
      go_simp; try with_reducible rfl
    rw [hx]
    exact ⟨Ay, ny, cy, ly, rfl, DZ, HB⟩
end Go.Proofs.YtnakanophilfhaaDoor
