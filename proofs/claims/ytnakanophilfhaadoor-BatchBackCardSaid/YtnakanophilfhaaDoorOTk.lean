/- Layer 7: what op.Take holds on its way: the reader, the op as far as it is read, its path's row. -/
import Derived.Test.YtnakanophilfhaaDoorOpB
import Derived.Test.YtnakanophilfhaaDoorApP
import Derived.Test.YtnakanophilfhaaDoorOpO
namespace Go.Proofs.YtnakanophilfhaaDoor
open Go.RowKit Go.Dio
set_option linter.unusedVariables false
set_option linter.unusedSimpArgs false
/-- No byte. -/
def noB (u : Value) : Prop := ∀ n : Int, u ≠ .int .u8 n
theorem noB_sv (l : List (Int × Int)) : ∀ u ∈ sv l, noB u := by
  induction l with
  | nil => intro u h; cases h
  | cons p l ih =>
    intro u h
    rcases List.mem_cons.1 h with rfl | h
    · intro n e; cases e
    · rcases List.mem_cons.1 h with rfl | h
      · intro n e; cases e
      · exact ih u h
theorem oxs_noB (d : OpD) (A : Option Addr) (n c : Nat) (i : Nat) (x : Int) : (oxs d A n c)[i]? ≠ some (.int .u8 x) := by
  match i with
  | 0 => simp
  | 1 => simp
  | 2 => simp
  | 3 => simp
  | 4 => simp
  | 5 => simp
  | 6 => simp
  | 7 => simp
  | 8 => simp
  | 9 => simp
  | 10 => simp
  | 11 => simp
  | i + 12 => simp
theorem OAt.grown {w w' : World} {b : Nat} {row : Option Nat} {d : OpD} {A : Option Addr} {n c : Nat} (h : OAt w b d A n c) (hb : w.grownBy w' row) (hn : row ≠ some b) : OAt w' b d A n c := ⟨by rw [hb.block b h.lt (fun e => hn e.symm)]; exact h.own⟩
theorem RootsAt.grown {w w' : World} {rb : Nat} (h : RootsAt w) (hb : w.grownBy w' (some rb)) (hr : 2 ≤ rb) : RootsAt w' := by
  have h0 := World.block_lt_of_cell? _ _ h.c00
  have h1 := World.block_lt_of_cell? _ _ h.c10
  have e0 : w'.heap[0]? = w.heap[0]? := hb.block 0 h0 (by simp; omega)
  have e1 : w'.heap[1]? = w.heap[1]? := hb.block 1 h1 (by simp; omega)
  exact ⟨by rw [World.cell?_of_block (a := ⟨0, 0, none⟩) e0]; exact h.c00, by rw [World.cell?_of_block (a := ⟨0, 1, none⟩) e0]; exact h.c01, by rw [World.cell?_of_block (a := ⟨1, 0, none⟩) e1]; exact h.c10, by rw [World.cell?_of_block (a := ⟨1, 1, none⟩) e1]; exact h.c11⟩
structure TkAt (w0 w : World) (base rb R X : Nat) (s : Rst) (d : OpD) (A : Option Addr) (n c : Nat) : Prop where
  rdr : RdrAt w base rb s
  x : OAt w X d A n c
  r : OAt w R opNil none 0 0
  row : w.ownsRow w0.heap.size 23 2 (.slice A n c) n (sv d.path)
  nob : OwnAll noB w (.slice A n c)
  grown : w0.grownBy w (some rb)
  lt : rb < w0.heap.size
  leR : w0.heap.size ≤ R
  leX : w0.heap.size ≤ X
  ne : R ≠ X
  far : ∀ k, (Value.slice A n c).ownBlock = some k → k ≠ X ∧ k ≠ R
section
variable {w0 w w' : World} {base rb R X : Nat} {s s' : Rst} {d d' : OpD} {A : Option Addr} {n c : Nat}
theorem TkAt.size (h : TkAt w0 w base rb R X s d A n c) : w0.heap.size ≤ w.heap.size := h.grown.size
/-- The reader has gone on. -/
theorem TkAt.rd (h : TkAt w0 w base rb R X s d A n c) (hr : RdrAt w' base rb s') (hg : w.grownBy w' (some rb)) : TkAt w0 w' base rb R X s' d A n c := by
  have h1 := h.lt; have h2 := h.leR; have h3 := h.leX
  have hk : ∀ k, (Value.slice A n c).ownBlock = some k → k ≠ rb := fun k hk => by have := (h.row.lt k hk).1; omega
  refine ⟨hr, h.x.grown hg (by simp; omega), h.r.grown hg (by simp; omega), h.row.kept hg ?_, h.nob.kept fun g hgk => hg.block g (h.row.lt g hgk).2 (by simp; exact hk g hgk), grown_trans h.grown hg, h1, h2, h3, h.ne, h.far⟩
  rcases e : (Value.slice A n c).ownBlock with _ | k
  · exact .inl rfl
  · exact .inr (by simp; exact hk k e)
/-- New blocks alone. -/
theorem TkAt.below (h : TkAt w0 w base rb R X s d A n c) (hb : Below w.heap.size w w') : TkAt w0 w' base rb R X s d A n c :=
  h.rd (h.rdr.below hb) (grown_then (World.grownBy.refl w _) hb)
theorem TkAt.drew (h : TkAt w0 w base rb R X s d A n c) : TkAt w0 w.drew base rb R X s d A n c :=
  ⟨h.rdr.drew, h.x.drew, h.r.drew, h.row, h.nob, ⟨h.grown.os, h.grown.tape, h.grown.output, h.grown.size, h.grown.block⟩, h.lt, h.leR, h.leX, h.ne, h.far⟩
/-- A cell of the op is written. -/
theorem TkAt.set (h : TkAt w0 w base rb R X s d A n c) (i : Nat) (u : Value) (d' : OpD) (hx : (oxs d A n c).setIfInBounds i u = oxs d' A n c) (hp : d'.path = d.path) : TkAt w0 (w.setCell ⟨X, i, none⟩ u) base rb R X s d' A n c := by
  have h1 := h.lt; have h2 := h.leR; have h3 := h.leX; have h4 := h.ne
  have hk : ∀ k, k ≠ X → (w.setCell ⟨X, i, none⟩ u).heap[k]? = w.heap[k]? := fun k hk => Below.heap_setCell w ⟨X, i, none⟩ u k hk
  refine ⟨h.rdr.other h.x.own (oxs_noB d A n c) (by omega) (fun k hk' _ => hk k hk'), ⟨by rw [cellsT_set h.x.own i u, hx]⟩, ⟨by rw [hk R h4]; exact h.r.own⟩, ?_, h.nob.kept fun g hg => hk g (h.far g hg).1, ?_, h1, h2, h3, h4, h.far⟩
  · rw [hp]
    refine h.row.kept (row := some X) (grown_set w X i u) ?_
    rcases e : (Value.slice A n c).ownBlock with _ | k
    · exact .inl rfl
    · exact .inr (by simp; exact (h.far k e).1)
  · have g := grown_set w X i u
    exact ⟨g.os.trans h.grown.os, g.tape.trans h.grown.tape, g.output.trans h.grown.output, Nat.le_trans h.grown.size g.size, fun k hk1 hk2 => (hk k (by omega)).trans (h.grown.block k hk1 hk2)⟩
theorem TkAt.node (h : TkAt w0 w base rb R X s d A n c) (x y : Int) : TkAt w0 ((w.setCell ⟨X, 1, none⟩ (.int .i64 x)).setCell ⟨X, 2, none⟩ (.int .i64 y)) base rb R X s { d with n1 := x, n2 := y } A n c :=
  (h.set 1 (.int .i64 x) { d with n1 := x } rfl rfl).set 2 (.int .i64 y) { d with n1 := x, n2 := y } rfl rfl
theorem TkAt.ref (h : TkAt w0 w base rb R X s d A n c) (x y : Int) : TkAt w0 ((w.setCell ⟨X, 3, none⟩ (.int .i64 x)).setCell ⟨X, 4, none⟩ (.int .i64 y)) base rb R X s { d with r1 := x, r2 := y } A n c :=
  (h.set 3 (.int .i64 x) { d with r1 := x } rfl rfl).set 4 (.int .i64 y) { d with r1 := x, r2 := y } rfl rfl
theorem TkAt.key (h : TkAt w0 w base rb R X s d A n c) (x : ByteArray) : TkAt w0 (w.setCell ⟨X, 5, none⟩ (.string x)) base rb R X s { d with key := x } A n c := h.set 5 (.string x) { d with key := x } rfl rfl
theorem TkAt.prop (h : TkAt w0 w base rb R X s d A n c) (x : Int) : TkAt w0 (w.setCell ⟨X, 7, none⟩ (.int .i64 x)) base rb R X s { d with prop := x } A n c := h.set 7 (.int .i64 x) { d with prop := x } rfl rfl
theorem TkAt.val (h : TkAt w0 w base rb R X s d A n c) (x y : Int) (t : ByteArray) : TkAt w0 (((w.setCell ⟨X, 8, none⟩ (.int .i64 x)).setCell ⟨X, 9, none⟩ (.int .i64 y)).setCell ⟨X, 10, none⟩ (.string t)) base rb R X s { d with vk := x, vn := y, vt := t } A n c :=
  ((h.set 8 (.int .i64 x) { d with vk := x } rfl rfl).set 9 (.int .i64 y) { d with vk := x, vn := y } rfl rfl).set 10 (.string t) { d with vk := x, vn := y, vt := t } rfl rfl
theorem TkAt.on (h : TkAt w0 w base rb R X s d A n c) (x : Bool) : TkAt w0 (w.setCell ⟨X, 11, none⟩ (.bool x)) base rb R X s { d with on := x } A n c := h.set 11 (.bool x) { d with on := x } rfl rfl
theorem sv_append : ∀ (l m : List (Int × Int)), sv (l ++ m) = sv l ++ sv m
  | [], m => rfl
  | p :: l, m => by simp [sv, sv_append l m]
/-- One stamp more: the row, and the op's slice. -/
theorem TkAt.more (h : TkAt w0 w base rb R X s d A n c) (x y : Int) {w2 : World} {A' : Option Addr} {c' : Nat} (hg : w.grownBy w2 (Value.slice A n c).ownBlock) (hrow : w2.ownsRow w0.heap.size 23 2 (.slice A' (n + 1) c') (n + 1) (sv d.path ++ sv [(x, y)]))
    (hnob : OwnAll noB w2 (.slice A' (n + 1) c')) (hat : (Value.slice A' (n + 1) c').ownBlock = (Value.slice A n c).ownBlock ∨ (Value.slice A' (n + 1) c').ownBlock = some w.heap.size) :
    OAt w2 X d A n c ∧ TkAt w0 (w2.setCell ⟨X, 6, none⟩ (.slice A' (n + 1) c')) base rb R X s { d with path := d.path ++ [(x, y)] } A' (n + 1) c' := by
  have h1 := h.lt; have h2 := h.leR; have h3 := h.leX; have h4 := h.ne
  have hxl := h.x.lt; have hrl := h.r.lt
  have hX : OAt w2 X d A n c := h.x.grown hg (fun e => (h.far X e).1 rfl)
  have hR : OAt w2 R opNil none 0 0 := h.r.grown hg (fun e => (h.far R e).2 rfl)
  have hrdr : RdrAt w2 base rb s := by
    rcases e : (Value.slice A n c).ownBlock with _ | g
    · rw [e] at hg
      exact h.rdr.move fun k _ hk => hg.block k hk (by simp)
    · rw [e] at hg
      have hgl := h.row.lt g e
      rcases h.row.2 with ⟨e2, _⟩ | ⟨g', cap, cur, e2, _, hgc, _⟩
      · rw [e2] at e; cases e
      · rw [e2] at e
        cases e
        refine h.rdr.other hgc (fun i m e3 => ?_) (by omega) (fun k hk hkl => hg.block k hkl (by simp; exact hk))
        have := h.nob g' cur _ _ (by rw [e2]; rfl) hgc (.int .u8 m) (by rw [List.mem_iff_getElem?]; exact ⟨i, by simpa using e3⟩) m
        exact this rfl
  have hfar : ∀ k, (Value.slice A' (n + 1) c').ownBlock = some k → k ≠ X ∧ k ≠ R := fun k hk => by
    rcases hat with e | e
    · exact h.far k (by rw [← e]; exact hk)
    · rw [e] at hk; cases hk; omega
  have hk : ∀ k, k ≠ X → (w2.setCell ⟨X, 6, none⟩ (.slice A' (n + 1) c')).heap[k]? = w2.heap[k]? := fun k hk => Below.heap_setCell w2 ⟨X, 6, none⟩ _ k hk
  refine ⟨hX, hrdr.other hX.own (oxs_noB d A n c) (by omega) (fun k hk' _ => hk k hk'), ⟨by rw [cellsT_set hX.own 6 _]; rfl⟩, ⟨by rw [hk R h4]; exact hR.own⟩, ?_, hnob.kept fun g hg => hk g (hfar g hg).1, ?_, h1, h2, h3, h4, hfar⟩
  · rw [sv_append]
    refine hrow.kept (row := some X) (grown_set w2 X 6 _) ?_
    rcases e : (Value.slice A' (n + 1) c').ownBlock with _ | k
    · exact .inl rfl
    · exact .inr (by simp; exact (hfar k e).1)
  · have g := grown_set w2 X 6 (.slice A' (n + 1) c')
    refine ⟨g.os.trans (hg.os.trans h.grown.os), g.tape.trans (hg.tape.trans h.grown.tape), g.output.trans (hg.output.trans h.grown.output), Nat.le_trans (Nat.le_trans h.grown.size hg.size) g.size, fun k hk1 hk2 => (hk k (by omega)).trans ((hg.block k (by have := h.grown.size; omega) (fun e => ?_)).trans (h.grown.block k hk1 hk2))⟩
    have := (h.row.lt k e.symm).1
    omega
theorem TkAt.st (h : TkAt w0 w base rb R X s d A n c) (hn : d.path.length = n) : IsSt w A n c d.path := by
  obtain ⟨A', c', e, h1, h2, h3, _⟩ := owns_form h.row
  cases e
  exact ⟨hn, h1, h2, h3⟩
theorem TkAt.len (h : TkAt w0 w base rb R X s d A n c) : d.path.length = n := by
  have := h.row.1
  rw [sv_length] at this
  omega
theorem RdrAt.len {w : World} {base rb : Nat} {s : Rst} (h : RdrAt w base rb s) : s.1.length ≤ 9223372036854775807 := by
  obtain ⟨A, n, c, _, h2, _⟩ := h.own
  have := h2.len; have := h2.cap; have := h2.max
  omega
end
theorem tVal_size (s : Rst) : (tVal s).1.2.2.size ≤ s.1.length := by
  have h0 : (⟨#[]⟩ : ByteArray).size = 0 := rfl
  have key : (vRead s).1.2.2.size ≤ s.1.length := by
    unfold vRead
    split
    · simp [h0]
    · split
      · simp [h0]
      · split
        · simp only [mkS_size]
          exact Nat.le_trans (rText_res _) (rUpto_len 281474976710655 s)
        · simp [h0]
  unfold tVal vLook
  split
  · split
    · exact key
    · simp [h0]
  · simp [h0]
/-- What is written out. -/
def outW (w : World) (R : Nat) (e : OpD) (A1 : Option Addr) (m c1 : Nat) : World := (((((((((((w.setCell ⟨R, 0, none⟩ (.int .i64 e.k)).setCell ⟨R, 1, none⟩ (.int .i64 e.n1)).setCell ⟨R, 2, none⟩ (.int .i64 e.n2)).setCell ⟨R, 3, none⟩ (.int .i64 e.r1)).setCell ⟨R, 4, none⟩ (.int .i64 e.r2)).setCell ⟨R, 5, none⟩ (.string e.key)).setCell ⟨R, 6, none⟩ (.slice A1 m c1)).setCell ⟨R, 7, none⟩ (.int .i64 e.prop)).setCell ⟨R, 8, none⟩ (.int .i64 e.vk)).setCell ⟨R, 9, none⟩ (.int .i64 e.vn)).setCell ⟨R, 10, none⟩ (.string e.vt)).setCell ⟨R, 11, none⟩ (.bool e.on)
theorem outW_other (w : World) (R : Nat) (e : OpD) (A1 : Option Addr) (m c1 : Nat) (k : Nat) (hk : k ≠ R) : (outW w R e A1 m c1).heap[k]? = w.heap[k]? := by
  unfold outW
  rw [Below.heap_setCell _ ⟨R, 11, none⟩ _ k hk, Below.heap_setCell _ ⟨R, 10, none⟩ _ k hk, Below.heap_setCell _ ⟨R, 9, none⟩ _ k hk, Below.heap_setCell _ ⟨R, 8, none⟩ _ k hk, Below.heap_setCell _ ⟨R, 7, none⟩ _ k hk, Below.heap_setCell _ ⟨R, 6, none⟩ _ k hk, Below.heap_setCell _ ⟨R, 5, none⟩ _ k hk, Below.heap_setCell _ ⟨R, 4, none⟩ _ k hk, Below.heap_setCell _ ⟨R, 3, none⟩ _ k hk, Below.heap_setCell _ ⟨R, 2, none⟩ _ k hk, Below.heap_setCell _ ⟨R, 1, none⟩ _ k hk, Below.heap_setCell _ ⟨R, 0, none⟩ _ k hk]
theorem outW_grown (w : World) (R : Nat) (e : OpD) (A1 : Option Addr) (m c1 : Nat) : w.grownBy (outW w R e A1 m c1) (some R) := by
  unfold outW
  exact grown_trans (grown_trans (grown_trans (grown_trans (grown_trans (grown_trans (grown_trans (grown_trans (grown_trans (grown_trans (grown_trans (grown_set w R 0 _) (grown_set _ R 1 _)) (grown_set _ R 2 _)) (grown_set _ R 3 _)) (grown_set _ R 4 _)) (grown_set _ R 5 _)) (grown_set _ R 6 _)) (grown_set _ R 7 _)) (grown_set _ R 8 _)) (grown_set _ R 9 _)) (grown_set _ R 10 _)) (grown_set _ R 11 _)
theorem TkAt.out {w0 w : World} {base rb R X : Nat} {s : Rst} {d : OpD} {A : Option Addr} {n c : Nat} (h : TkAt w0 w base rb R X s d A n c) (e : OpD) (A1 : Option Addr) (m c1 : Nat) :
    OAt (outW w R e A1 m c1) R e A1 m c1 ∧ RdrAt (outW w R e A1 m c1) base rb s ∧ w0.grownBy (outW w R e A1 m c1) (some rb) ∧ IsSt (outW w R e A1 m c1) A n c d.path ∧ (∀ a, A = some a → w0.heap.size ≤ a.block ∧ a.block < (outW w R e A1 m c1).heap.size) := by
  have h1 := h.lt; have h2 := h.leR
  have hk := outW_other w R e A1 m c1
  have g := outW_grown w R e A1 m c1
  refine ⟨h.r.set12 e A1 m c1, h.rdr.other h.r.own (oxs_noB opNil none 0 0) (by omega) (fun k hk' _ => hk k hk'), ⟨g.os.trans h.grown.os, g.tape.trans h.grown.tape, g.output.trans h.grown.output, Nat.le_trans h.grown.size g.size, fun k hk1 hk2 => (hk k (by omega)).trans (h.grown.block k hk1 hk2)⟩, (h.st h.len).move fun a ha => hk a.block ?_, fun a ha => ?_⟩
  · subst ha; exact (h.far a.block rfl).2
  · subst ha
    have := h.row.lt a.block rfl
    exact ⟨this.1, Nat.lt_of_lt_of_le this.2 g.size⟩
end Go.Proofs.YtnakanophilfhaaDoor
