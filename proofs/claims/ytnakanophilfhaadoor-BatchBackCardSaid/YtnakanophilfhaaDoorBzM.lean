/- PureBt BtM BtA BtB BtC BtD in one. -/
import Derived.Test.YtnakanophilfhaaDoorPureO
import Derived.Test.YtnakanophilfhaaDoorOPp
import Derived.Test.YtnakanophilfhaaDoorOpT
import Derived.Test.YtnakanophilfhaaDoorOd
import Derived.Test.YtnakanophilfhaaDoorWfB
import Derived.Test.YtnakanophilfhaaDoorPure2
/- PureBt: Batches, in plain lists: which may be; their bytes; what a reader makes of bytes. -/
namespace Go.Proofs.YtnakanophilfhaaDoor
open Go.RowKit Go.Dio
set_option linter.unusedVariables false
set_option linter.unusedSimpArgs false
structure BtD where
  rep : Int
  seq : Int
  time : Int
  ops : List OpD
def opsOk (l : List OpD) : Bool := l.all oright
/-- May it be? The conditions, one by one. -/
def bc1 (b : BtD) : Bool := decide (0 ≤ b.rep)
def bc2 (b : BtD) : Bool := decide (b.rep < 16)
def bc3 (b : BtD) : Bool := decide (0 < b.seq)
def bc4 (b : BtD) : Bool := decide (b.seq ≤ 512)
def bc5 (b : BtD) : Bool := decide (0 < b.ops.length)
def bc6 (b : BtD) : Bool := decide (b.ops.length ≤ 64)
def bc7 (b : BtD) : Bool := decide (0 < b.time)
def bc8 (b : BtD) : Bool := decide (b.time ≤ 1099511627776 - ((b.ops.length : Int) - 1))
def bright (b : BtD) : Bool := bc1 b && bc2 b && bc3 b && bc4 b && bc5 b && bc6 b && bc7 b && bc8 b && opsOk b.ops
structure BrightI (b : BtD) : Prop where
  rep0 : 0 ≤ b.rep
  rep1 : b.rep < 16
  seq0 : 0 < b.seq
  seq1 : b.seq ≤ 512
  n0 : 0 < b.ops.length
  n1 : b.ops.length ≤ 64
  t0 : 0 < b.time
  t1 : b.time ≤ 1099511627776 - ((b.ops.length : Int) - 1)
  ops : opsOk b.ops = true
theorem bright_i {b : BtD} (h : bright b = true) : BrightI b := by
  simp only [bright, bc1, bc2, bc3, bc4, bc5, bc6, bc7, bc8, Bool.and_eq_true, decide_eq_true_eq] at h
  obtain ⟨⟨⟨⟨⟨⟨⟨⟨h1, h2⟩, h3⟩, h4⟩, h5⟩, h6⟩, h7⟩, h8⟩, h9⟩ := h
  exact ⟨h1, h2, h3, h4, h5, h6, h7, h8, h9⟩
theorem opsOk_mem {l : List OpD} (h : opsOk l = true) {d : OpD} (hd : d ∈ l) : oright d = true := by
  simp only [opsOk, List.all_eq_true] at h
  exact h d hd
def opsB (l : List OpD) : List UInt8 := l.flatMap opB
theorem opsB_le : ∀ (l : List OpD), opsOk l = true → (opsB l).length ≤ 600 * l.length
  | [], _ => by simp [opsB]
  | d :: l, h => by
    have h1 := opB_le (opsOk_mem h (List.mem_cons_self ..))
    have h2 := opsB_le l (by simp only [opsOk, List.all_cons, Bool.and_eq_true] at h; exact h.2)
    have e : opsB (d :: l) = opB d ++ opsB l := by simp [opsB]
    rw [e, List.length_append, List.length_cons]
    omega
def btB (b : BtD) : List UInt8 := numB b.rep.toNat ++ (numB b.seq.toNat ++ (numB b.time.toNat ++ (numB b.ops.length ++ opsB b.ops)))
theorem btB_le {b : BtD} (h : bright b = true) : (btB b).length ≤ 40000 := by
  have i := bright_i h
  have := i.rep0; have := i.rep1; have := i.seq0; have := i.seq1; have := i.n1; have := i.t0; have := i.t1
  have l1 := numB_le b.rep.toNat (by omega)
  have l2 := numB_le b.seq.toNat (by omega)
  have l3 := numB_le b.time.toNat (by omega)
  have l4 := numB_le b.ops.length (by omega)
  have l5 := opsB_le b.ops i.ops
  simp only [btB, List.length_append]
  omega
/-- So many ops of a reader, till one is none. -/
def rOps : Nat → Rst → List OpD × Rst
  | 0, s => ([], s)
  | n + 1, s => if (tOp s).2.2 = 0 then ((tOp s).1 :: (rOps n (tOp s).2).1, (rOps n (tOp s).2).2) else ([], (tOp s).2)
theorem rOps_opsB : ∀ (l : List OpD) (u : List UInt8), opsOk l = true → rOps l.length (opsB l ++ u, 0) = (l, (u, 0))
  | [], u, _ => rfl
  | d :: l, u, h => by
    have e : opsB (d :: l) ++ u = opB d ++ (opsB l ++ u) := by simp [opsB]
    have h1 := tOp_opB d (opsB l ++ u) (opsOk_mem h (List.mem_cons_self ..))
    have h2 := rOps_opsB l u (by simp only [opsOk, List.all_cons, Bool.and_eq_true] at h; exact h.2)
    simp only [List.length_cons, rOps, e, h1, h2, if_true]
def btNil : BtD := ⟨0, 0, 0, []⟩
def btRead (s : Rst) : BtD × Rst :=
  let a := rUpto 15 s
  let q := rUpto 512 a.2
  let t := rUpto 281474976710655 q.2
  let n := rUpto 64 t.2
  let l := rOps n.1.toNat n.2
  (⟨a.1, q.1, t.1, l.1⟩, l.2)
def btLook (b : BtD) (s : Rst) : BtD × Rst := if s.2 = 0 then (if bright b = true then (b, s) else (btNil, rFail s 21)) else (btNil, s)
def tBt (s : Rst) : BtD × Rst := btLook (btRead s).1 (btRead s).2
theorem tBt_btB (b : BtD) (u : List UInt8) (h : bright b = true) : tBt (btB b ++ u, 0) = (b, (u, 0)) := by
  have i := bright_i h
  have := i.rep0; have := i.rep1; have := i.seq0; have := i.seq1; have := i.n1; have := i.t0; have := i.t1
  have e1 : ∀ x, rUpto 15 (numB b.rep.toNat ++ x, 0) = (b.rep, (x, 0)) := fun x => by
    rw [rUpto_numB _ _ _ (by omega) (by omega), Int.toNat_of_nonneg (by omega)]
  have e2 : ∀ x, rUpto 512 (numB b.seq.toNat ++ x, 0) = (b.seq, (x, 0)) := fun x => by
    rw [rUpto_numB _ _ _ (by omega) (by omega), Int.toNat_of_nonneg (by omega)]
  have e3 : ∀ x, rUpto 281474976710655 (numB b.time.toNat ++ x, 0) = (b.time, (x, 0)) := fun x => by
    rw [rUpto_numB _ _ _ (by omega) (by omega), Int.toNat_of_nonneg (by omega)]
  have e4 : ∀ x, rUpto 64 (numB b.ops.length ++ x, 0) = ((b.ops.length : Int), (x, 0)) := fun x => by
    rw [rUpto_numB _ _ _ (by omega) (by omega)]
  have e5 := rOps_opsB b.ops u i.ops
  have key : btRead (btB b ++ u, 0) = (b, (u, 0)) := by
    simp only [btRead, btB, List.append_assoc, e1, e2, e3, e4, e5, Int.toNat_natCast]
  unfold tBt btLook
  rw [key]
  simp only [if_true, h]
/-- The same? -/
def osames : List OpD → List OpD → Bool
  | [], [] => true
  | a :: l, b :: m => osame a b && osames l m
  | _, _ => false
theorem osames_refl : ∀ l : List OpD, osames l l = true
  | [] => rfl
  | a :: l => by simp [osames, osame_refl, osames_refl l]
def bsame (b b' : BtD) : Bool := decide (b.rep = b'.rep) && (decide (b.seq = b'.seq) && (decide (b.time = b'.time) && osames b.ops b'.ops))
theorem bsame_refl (b : BtD) : bsame b b = true := by simp [bsame, osames_refl]
/-- A stamp of an op. -/
def bStamp (b : BtD) (i : Int) : Int × Int := if 0 ≤ i ∧ i < (b.ops.length : Int) ∧ bright b = true then (b.time + i, b.rep) else (0, 0)
end Go.Proofs.YtnakanophilfhaaDoor
/- BtM: Ops and batches in memory. -/
namespace Go.Proofs.YtnakanophilfhaaDoor
open Go.RowKit Go.Dio
set_option linter.unusedVariables false
set_option linter.unusedSimpArgs false
/-- An op with its path's slice. -/
structure OpV where
  d : OpD
  A : Option Addr
  n : Nat
  c : Nat
@[reducible] def ox (p : OpV) : Array Value := oxs p.d p.A p.n p.c
def ov : List OpV → List Value
  | [] => []
  | p :: l => (ox p).toList ++ ov l
theorem ov_length : ∀ l : List OpV, (ov l).length = l.length * 12
  | [] => rfl
  | p :: l => by
    have := ov_length l
    simp only [ov, List.length_append, List.length_cons, this]
    show 12 + _ = _
    omega
theorem ov_append : ∀ (l m : List OpV), ov (l ++ m) = ov l ++ ov m
  | [], m => rfl
  | p :: l, m => by simp only [ov, List.cons_append, ov_append l m, List.append_assoc]
theorem ov_get : ∀ (l : List OpV) (i : Nat) (p : OpV) (j : Nat) (u : Value), l[i]? = some p → (ox p)[j]? = some u → (ov l)[i * 12 + j]? = some u
  | [], i, p, j, u, h, _ => by simp at h
  | q :: l, 0, p, j, u, h, hj => by
    simp at h
    subst h
    have hj12 : j < 12 := (Array.getElem?_eq_some_iff.1 hj).1
    simp only [ov, Nat.zero_mul, Nat.zero_add]
    rw [List.getElem?_append_left (by show j < 12; exact hj12)]
    simpa using hj
  | q :: l, i + 1, p, j, u, h, hj => by
    have := ov_get l i p j u (by simpa using h) hj
    simp only [ov]
    rw [List.getElem?_append_right (by show 12 ≤ _; omega)]
    show (ov l)[(i + 1) * 12 + j - 12]? = _
    rw [show (i + 1) * 12 + j - 12 = i * 12 + j by omega]
    exact this
theorem ov_mem {l : List OpV} {u : Value} (h : u ∈ ov l) : ∃ p ∈ l, u ∈ (ox p).toList := by
  induction l with
  | nil => cases h
  | cons p l ih =>
    simp only [ov, List.mem_append] at h
    rcases h with h | h
    · exact ⟨p, List.mem_cons_self .., h⟩
    · obtain ⟨q, hq, hu⟩ := ih h
      exact ⟨q, List.mem_cons_of_mem _ hq, hu⟩
theorem ov_one (l : List OpV) : ∀ u ∈ ov l, u.oneCell' = true := by
  intro u h
  obtain ⟨p, _, hu⟩ := ov_mem h
  simp only [ox, oxs, List.mem_cons, List.not_mem_nil, or_false] at hu
  rcases hu with rfl | rfl | rfl | rfl | rfl | rfl | rfl | rfl | rfl | rfl | rfl | rfl <;> rfl
theorem noB_ov (l : List OpV) : ∀ u ∈ ov l, noB u := by
  intro u h n e
  obtain ⟨p, _, hu⟩ := ov_mem h
  subst e
  simp [ox, oxs] at hu
/-- Ops that lie in a slice. -/
structure IsOps (w : World) (A : Option Addr) (n c : Nat) (l : List OpV) : Prop where
  len : l.length = n
  cap : n ≤ c
  max : c ≤ 9223372036854775807
  cells : CellsAt w A (ov l)
  each : ∀ p ∈ l, OpIs w p.d p.A p.n p.c
theorem IsOps.below {w w' : World} {A : Option Addr} {n c : Nat} {l : List OpV} (h : IsOps w A n c l) (hb : Below w.heap.size w w') : IsOps w' A n c l := ⟨h.len, h.cap, h.max, h.cells.below hb, fun p hp => (h.each p hp).below hb⟩
theorem IsOps.nil (w : World) : IsOps w none 0 0 [] := ⟨rfl, Nat.le_refl _, by omega, .inl rfl, fun p hp => by cases hp⟩
/-- The cells of the op at a place. -/
structure At12 (w : World) (b o : Nat) (p : OpV) : Prop where
  c0 : w.cell? ⟨b, o, none⟩ = some (.int .i64 p.d.k)
  c1 : w.cell? ⟨b, o + 1, none⟩ = some (.int .i64 p.d.n1)
  c2 : w.cell? ⟨b, o + 2, none⟩ = some (.int .i64 p.d.n2)
  c3 : w.cell? ⟨b, o + 3, none⟩ = some (.int .i64 p.d.r1)
  c4 : w.cell? ⟨b, o + 4, none⟩ = some (.int .i64 p.d.r2)
  c5 : w.cell? ⟨b, o + 5, none⟩ = some (.string p.d.key)
  c6 : w.cell? ⟨b, o + 6, none⟩ = some (.slice p.A p.n p.c)
  c7 : w.cell? ⟨b, o + 7, none⟩ = some (.int .i64 p.d.prop)
  c8 : w.cell? ⟨b, o + 8, none⟩ = some (.int .i64 p.d.vk)
  c9 : w.cell? ⟨b, o + 9, none⟩ = some (.int .i64 p.d.vn)
  c10 : w.cell? ⟨b, o + 10, none⟩ = some (.string p.d.vt)
  c11 : w.cell? ⟨b, o + 11, none⟩ = some (.bool p.d.on)
theorem At12.below {w w' : World} {b o : Nat} {p : OpV} (h : At12 w b o p) (hb : Below w.heap.size w w') : At12 w' b o p :=
  ⟨by rw [hb.cell (World.block_lt_of_cell? _ _ h.c0)]; exact h.c0, by rw [hb.cell (World.block_lt_of_cell? _ _ h.c1)]; exact h.c1, by rw [hb.cell (World.block_lt_of_cell? _ _ h.c2)]; exact h.c2, by rw [hb.cell (World.block_lt_of_cell? _ _ h.c3)]; exact h.c3,
   by rw [hb.cell (World.block_lt_of_cell? _ _ h.c4)]; exact h.c4, by rw [hb.cell (World.block_lt_of_cell? _ _ h.c5)]; exact h.c5, by rw [hb.cell (World.block_lt_of_cell? _ _ h.c6)]; exact h.c6, by rw [hb.cell (World.block_lt_of_cell? _ _ h.c7)]; exact h.c7,
   by rw [hb.cell (World.block_lt_of_cell? _ _ h.c8)]; exact h.c8, by rw [hb.cell (World.block_lt_of_cell? _ _ h.c9)]; exact h.c9, by rw [hb.cell (World.block_lt_of_cell? _ _ h.c10)]; exact h.c10, by rw [hb.cell (World.block_lt_of_cell? _ _ h.c11)]; exact h.c11⟩
theorem IsOps.at_ {w : World} {A : Option Addr} {n c : Nat} {l : List OpV} (h : IsOps w A n c l) (hn : 0 < n) : ∃ b o, A = some ⟨b, o, none⟩ ∧ ∀ i p, l[i]? = some p → At12 w b (o + i * 12) p := by
  have hl := h.len
  obtain ⟨b, o, e, hc⟩ := h.cells.get (by rw [ov_length]; omega)
  refine ⟨b, o, e, fun i p hp => ?_⟩
  have g : ∀ j u, (ox p)[j]? = some u → w.cell? ⟨b, o + i * 12 + j, none⟩ = some u := fun j u hu => by
    have := hc (i * 12 + j) u (ov_get l i p j u hp hu)
    rwa [← Nat.add_assoc] at this
  exact ⟨g 0 _ rfl, g 1 _ rfl, g 2 _ rfl, g 3 _ rfl, g 4 _ rfl, g 5 _ rfl, g 6 _ rfl, g 7 _ rfl, g 8 _ rfl, g 9 _ rfl, g 10 _ rfl, g 11 _ rfl⟩
/-- A batch, with its ops' slice. -/
@[reducible] def bxs (x y z : Int) (A : Option Addr) (n c : Nat) : Array Value := #[.int .i64 x, .int .i64 y, .int .i64 z, .slice A n c]
@[reducible] def btv (x y z : Int) (A : Option Addr) (n c : Nat) : Value := .agg (bxs x y z A n c)
@[reducible] def bto (x y z : Int) (A : Option Addr) (n c : Nat) : Obj := .cells (bxs x y z A n c) 64
structure BAt (w : World) (b : Nat) (x y z : Int) (A : Option Addr) (n c : Nat) : Prop where
  own : w.heap[b]? = some (bto x y z A n c)
theorem BAt.lt {w : World} {b : Nat} {x y z : Int} {A : Option Addr} {n c : Nat} (h : BAt w b x y z A n c) : b < w.heap.size := (Array.getElem?_eq_some_iff.1 h.own).1
theorem BAt.below {w w' : World} {b : Nat} {x y z : Int} {A : Option Addr} {n c : Nat} (h : BAt w b x y z A n c) (hb : Below w.heap.size w w') : BAt w' b x y z A n c := ⟨by rw [hb.block b h.lt]; exact h.own⟩
theorem BAt.new (w : World) (x y z : Int) (A : Option Addr) (n c : Nat) (b : Nat) (hb : w.heap.size = b) : BAt (w.alloc (bto x y z A n c)) b x y z A n c := by subst hb; exact ⟨new_at _ _⟩
theorem BAt.fz {w : World} {b : Nat} {x y z : Int} {A : Option Addr} {n c : Nat} (h : BAt w b x y z A n c) (i : Nat) : w.frozen? ⟨b, i, none⟩ = false := by simp [World.frozen?, h.own]
theorem BAt.grown {w w' : World} {b : Nat} {row : Option Nat} {x y z : Int} {A : Option Addr} {n c : Nat} (h : BAt w b x y z A n c) (hb : w.grownBy w' row) (hn : row ≠ some b) : BAt w' b x y z A n c := ⟨by rw [hb.block b h.lt (fun e => hn e.symm)]; exact h.own⟩
structure BCells (w : World) (b : Nat) (x y z : Int) (A : Option Addr) (n c : Nat) : Prop where
  c0 : w.cell? ⟨b, 0, none⟩ = some (.int .i64 x)
  c1 : w.cell? ⟨b, 1, none⟩ = some (.int .i64 y)
  c2 : w.cell? ⟨b, 2, none⟩ = some (.int .i64 z)
  c3 : w.cell? ⟨b, 3, none⟩ = some (.slice A n c)
theorem BCells.below {w w' : World} {b : Nat} {x y z : Int} {A : Option Addr} {n c : Nat} (h : BCells w b x y z A n c) (hb : Below w.heap.size w w') : BCells w' b x y z A n c :=
  ⟨by rw [hb.cell (World.block_lt_of_cell? _ _ h.c0)]; exact h.c0, by rw [hb.cell (World.block_lt_of_cell? _ _ h.c1)]; exact h.c1, by rw [hb.cell (World.block_lt_of_cell? _ _ h.c2)]; exact h.c2, by rw [hb.cell (World.block_lt_of_cell? _ _ h.c3)]; exact h.c3⟩
theorem BAt.cs {w : World} {b : Nat} {x y z : Int} {A : Option Addr} {n c : Nat} (h : BAt w b x y z A n c) : BCells w b x y z A n c := ⟨cell_of h.own 0 rfl, cell_of h.own 1 rfl, cell_of h.own 2 rfl, cell_of h.own 3 rfl⟩
/-- A batch as one word: its three numbers, its ops in a slice. -/
structure BtIs (w : World) (b : BtD) (A : Option Addr) (n c : Nat) (l : List OpV) : Prop where
  ops : IsOps w A n c l
  eq : b.ops = l.map OpV.d
theorem BtIs.below {w w' : World} {b : BtD} {A : Option Addr} {n c : Nat} {l : List OpV} (h : BtIs w b A n c l) (hb : Below w.heap.size w w') : BtIs w' b A n c l := ⟨h.ops.below hb, h.eq⟩
theorem BtIs.len {w : World} {b : BtD} {A : Option Addr} {n c : Nat} {l : List OpV} (h : BtIs w b A n c l) : b.ops.length = n := by rw [h.eq, List.length_map, h.ops.len]
end Go.Proofs.YtnakanophilfhaaDoor
/- BtA: Layer 8: which batches may be. -/
namespace Go.Proofs.YtnakanophilfhaaDoor
open Go.RowKit Go.Dio
set_option linter.unusedVariables false
set_option linter.unusedSimpArgs false

theorem notRight_op (p : OpV) (w : World) (h : OpIs w p.d p.A p.n p.c) (hg : RootsAt w) : Calls Tryd.prog 88 #[opv p.d p.A p.n p.c] w fun e w' => e = .returned (.bool (!oright p.d)) ∧ Below w.heap.size w w' := by
  obtain ⟨d, A, n, c⟩ := p
  dsimp only at h ⊢
  refine frCall (args := [opv d A n c]) (N := 6) Tryd.func88 rfl rfl rfl (fun a0 F0 => ?_)
  refine wp_seq ?_
  have HB := Below.refl w.heap.size w
  refine kGo ?_
  refine kVal (v := ?v1) (w' := w.alloc (oo d A n c)) F0 rfl rfl rfl rfl ?y1 (fun a1 F1 => ?h1)
  case y1 =>
    have e0 := F0.ev 0 rfl; have g0 := F0.get 0 _ rfl
    go_simp
    all_goals (first | with_reducible rfl | (constructor <;> first | with_reducible rfl | rfl) | skip)
  clear F0 a0
  refine kMove F1 rfl rfl rfl rfl rfl (fun a2 F2 => ?_)
  clear F1 a1
  have F3 := F2.sub (l' := [(1, .pointer (some ⟨w.heap.size, 0, none⟩))]) ⟨rfl, trivial⟩
  clear F2
  have hb := below_alloc1 w (oo d A n c)
  have OX := OAt.new w d A n c _ rfl
  replace hg := hg.below hb
  replace h := h.below hb
  replace HB := below_then HB hb
  clear hb
  generalize w.alloc (oo d A n c) = w1 at *
  refine kFin rfl ?_
  refine frNext ?_
  refine wp_seq ?_
  refine kGo ?_
  refine kTake (v := opv d A n c) F3 rfl rfl rfl rfl ?y4 (fun a4 F4 => ?h4)
  case y4 =>
    have q := OX.cs; have y0 := q.c0; have y1 := q.c1; have y2 := q.c2; have y3 := q.c3; have y4 := q.c4; have y5 := q.c5; have y6 := q.c6; have y7 := q.c7; have y8 := q.c8; have y9 := q.c9; have y10 := q.c10; have y11 := q.c11; clear q; have e1 := F3.ev 1 rfl; have g1 := F3.get 1 _ rfl
    go_simp; try with_reducible rfl
  clear F3 a2
  refine kCall F4 rfl rfl rfl rfl (ORight_d d A n c _ h hg) ?y5 ?h5
  case y5 =>
    have e3 := F4.ev 3 rfl; have g3 := F4.get 3 _ rfl
    go_simp; try with_reducible rfl
  rintro e wN ⟨rfl, hb⟩
  replace hg := hg.below hb
  replace h := h.below hb
  replace OX := OX.below hb
  replace HB := below_then HB hb
  clear hb
  refine ⟨_, rfl, fun a5 F5 => ?_⟩
  clear F4 a4
  refine kMove F5 rfl rfl rfl rfl rfl (fun a6 F6 => ?_)
  clear F5 a5
  refine kMove F6 rfl rfl rfl rfl rfl (fun a7 F7 => ?_)
  clear F6 a6
  refine kFin rfl ?_
  refine frNext ?_
  refine wp_ret ?_
  exact frRet1 rfl F7 rfl ⟨rfl, HB⟩
@[reducible] def nrF : Value := .func (.func 88) #[] #[]
theorem allR_getD {l : List OpV} (h : ∀ i p, i < l.length → l[i]? = some p → oright p.d = true) : (l.map OpV.d).all oright = true := by
  rw [List.all_eq_true]
  intro x hx
  obtain ⟨p, hp, rfl⟩ := List.mem_map.1 hx
  obtain ⟨i, hi⟩ := List.getElem?_of_mem hp
  exact h i p (List.getElem?_eq_some_iff.1 hi).1 hi
theorem anyR_getD {l : List OpV} {i : Nat} {p : OpV} (hp : l[i]? = some p) (h : oright p.d = false) : (l.map OpV.d).all oright = false := by
  rw [Bool.eq_false_iff]
  intro ha
  rw [List.all_eq_true] at ha
  have := ha p.d (List.mem_map.2 ⟨p, List.mem_of_getElem? hp, rfl⟩)
  rw [h] at this
  cases this
set_option maxRecDepth 100000 in
set_option maxHeartbeats 4000000 in
theorem IndexFunc_op (A : Option Addr) (n c : Nat) (l : List OpV) (w : World) (h : IsOps w A n c l) (hg : RootsAt w) :
    Calls Tryd.prog 101 #[.slice A n c, nrF] w fun e w' => (∃ i : Int, e = .returned (.int .i64 i) ∧ decide (0 ≤ i) = !(l.map OpV.d).all oright) ∧ Below w.heap.size w w' := by
  have hl := h.len
  have hc := h.cap; have hm := h.max
  have HB := Below.refl w.heap.size w
  have HH := hid h
  have GG := hid hg
  clear h hg
  refine frCall (args := [.slice A n c, nrF]) (N := 19) Tryd.func101 rfl rfl rfl (fun a0 F0 => ?_)
  refine wp_seq ?_
  refine kGo ?_
  refine kMove F0 rfl rfl rfl rfl rfl (fun a1 F1 => ?_)
  clear F0 a0
  refine kFin rfl ?_
  refine frNext ?_
  refine wp_seq ?_
  refine wp_seq ?_
  refine kGo ?_
  refine kMove F1 rfl rfl rfl rfl rfl (fun a2 F2 => ?_)
  clear F1 a1
  refine kTake (v := ?v3) F2 rfl rfl rfl rfl ?y3 (fun a3 F3 => ?h3)
  case y3 =>
    have e6 := F2.ev 6 rfl; have g6 := F2.get 6 _ rfl
    go_simp; try with_reducible rfl
  clear F2 a2
  refine kMove F3 rfl rfl rfl rfl rfl (fun a4 F4 => ?_)
  clear F3 a3
  have F5 := F4.sub (l' := [(0, .slice A n c), (1, nrF), (7, .int .i64 (n : Int)), (8, .int .i64 0)]) ⟨rfl, rfl, rfl, rfl, trivial⟩
  clear F4
  refine kFin rfl ?_
  refine frNext ?_
  refine frBlock ?_
  refine wp_loop (fun aL wL => ∃ (i : Nat), i ≤ n ∧ Fr aL 19 [(0, .slice A n c), (1, nrF), (7, .int .i64 (n : Int)), (8, .int .i64 (i : Int))] ∧ (∀ j p, j < i → l[j]? = some p → oright p.d = true) ∧ Below w.heap.size w wL) (fun aL _ => n - (intOf (aL.tmps.getD 8 undef)).toNat) ?st ?rd
  case st => exact ⟨0, by omega, F5, fun j p hj => absurd hj (by omega), HB⟩
  case rd =>
    clear HB F5 a4
    rintro aL wL ⟨i, hi, FL, hj, HB⟩
    have HJ := hid hj
    clear hj
    rw [show intOf (aL.tmps.getD 8 undef) = (i : Int) by rw [FL.ev 8 rfl]; rfl]
    refine wp_seq ?_
    by_cases hlt : i < n
    · skip
      refine kGo ?_
      refine kTake (v := .bool true) FL rfl rfl rfl rfl ?y6 (fun a6 F6 => ?h6)
      case y6 =>
        have e7 := FL.ev 7 rfl; have g7 := FL.get 7 _ rfl; have e8 := FL.ev 8 rfl; have g8 := FL.get 8 _ rfl
        first | (go_simp; done) | (go_simp; omega)
      clear FL aL
      refine kFin rfl ?_
      refine frNext ?_
      refine wp_seq ?_
      refine frCond (b := true) F6 rfl ?_
      simp only [if_true]
      refine wp_skip ?_
      refine frNext ?_
      refine wp_seq ?_
      refine frBlock ?_
      refine wp_seq ?_
      have HL := HH.out.below HB
      have GL := GG.out.below HB
      obtain ⟨bb, oo', hA, hx⟩ := HL.at_ (by omega)
      obtain ⟨p, hp⟩ : ∃ p, l[i]? = some p := ⟨_, List.getElem?_eq_getElem (by omega)⟩
      have hz := hx i p hp
      have hpi := HL.each p (List.mem_of_getElem? hp)
      have HP := hid hp
      subst hA
      clear hx hp
      refine kGo ?_
      refine kMove F6 rfl rfl rfl rfl rfl (fun a7 F7 => ?_)
      clear F6 a6
      refine kMove F7 rfl rfl rfl rfl rfl (fun a8 F8 => ?_)
      clear F7 a7
      refine kFin rfl ?_
      refine frNext ?_
      refine wp_seq ?_
      refine kGo ?_
      refine kMove F8 rfl rfl rfl rfl rfl (fun a9 F9 => ?_)
      clear F8 a8
      refine kMove F9 rfl rfl rfl rfl rfl (fun a10 F10 => ?_)
      clear F9 a9
      refine kMove F10 rfl rfl rfl rfl rfl (fun a11 F11 => ?_)
      clear F10 a10
      refine kTake (v := ?v12) F11 rfl rfl rfl rfl ?y12 (fun a12 F12 => ?h12)
      case y12 =>
        have e12 := F11.ev 12 rfl; have g12 := F11.get 12 _ rfl; have e13 := F11.ev 13 rfl; have g13 := F11.get 13 _ rfl
        first | (go_simp; done) | (go_simp; omega) | (go_simp; try with_reducible rfl)
      clear F11 a11
      refine kTake (v := opv p.d p.A p.n p.c) F12 rfl rfl rfl rfl ?y13 (fun a13 F13 => ?h13)
      case y13 =>
        have y0 := hz.c0; have y1 := hz.c1; have y2 := hz.c2; have y3 := hz.c3; have y4 := hz.c4; have y5 := hz.c5; have y6 := hz.c6; have y7 := hz.c7; have y8 := hz.c8; have y9 := hz.c9; have y10 := hz.c10; have y11 := hz.c11; have e14 := F12.ev 14 rfl; have g14 := F12.get 14 _ rfl
        go_simp; try with_reducible rfl
      clear F12 a12
      refine kCall F13 rfl rfl rfl rfl (notRight_op p _ hpi GL) ?y14 ?h14
      case y14 =>
        have e11 := F13.ev 11 rfl; have g11 := F13.get 11 _ rfl; have e15 := F13.ev 15 rfl; have g15 := F13.get 15 _ rfl
        go_simp; try with_reducible rfl
      rintro e wN ⟨rfl, hb⟩
      replace HB := below_then HB hb
      clear hb
      rcases hR : oright p.d with _ | _
      · skip
        refine ⟨_, rfl, fun a14 F14 => ?_⟩
        clear F13 a13
        have F15 := F14.sub (l' := [(5, .int .i64 (i : Int)), (16, .bool true)]) ⟨rfl, rfl, trivial⟩
        clear F14
        refine kFin rfl ?_
        refine frNext ?_
        refine frCond (b := true) F15 rfl ?_
        simp only [if_true]
        refine wp_seq ?_
        refine kGo ?_
        refine kMove F15 rfl rfl rfl rfl rfl (fun a16 F16 => ?_)
        clear F15 a14
        refine kMove F16 rfl rfl rfl rfl rfl (fun a17 F17 => ?_)
        clear F16 a16
        refine kFin rfl ?_
        refine frNext ?_
        refine wp_ret ?_
        refine frBlkRet ?_
        refine frThenRet ?_
        refine frThenRet ?_
        refine frBlkRet ?_
        refine frThenRet ?_
        exact frRet1 rfl F17 rfl ⟨⟨_, rfl, by rw [anyR_getD HP.out hR]; simp⟩, HB⟩
      · skip
        refine ⟨_, rfl, fun a14 F14 => ?_⟩
        clear F13 a13
        have F18 := F14.sub (l' := [(0, .slice (some ⟨bb, oo', none⟩) n c), (1, nrF), (7, .int .i64 (n : Int)), (8, .int .i64 (i : Int)), (16, .bool false)]) ⟨rfl, rfl, rfl, rfl, rfl, trivial⟩
        clear F14
        refine kFin rfl ?_
        refine frNext ?_
        refine frCond (b := false) F18 rfl ?_
        simp only [Bool.false_eq_true, if_false]
        refine wp_skip ?_
        refine frBlkN ?_
        refine frNext ?_
        refine kGo ?_
        refine kTake (v := .int .i64 ((i + 1 : Nat) : Int)) F18 rfl rfl rfl rfl ?y19 (fun a19 F19 => ?h19)
        case y19 =>
          have e8 := F18.ev 8 rfl; have g8 := F18.get 8 _ rfl
          first | (go_simp; done) | (go_simp; simp only [IntKind.wrap_i64]; omega)
        clear F18 a14
        refine kMove F19 rfl rfl rfl rfl rfl (fun a20 F20 => ?_)
        clear F19 a19
        have F21 := F20.sub (l' := [(0, .slice (some ⟨bb, oo', none⟩) n c), (1, nrF), (7, .int .i64 (n : Int)), (8, .int .i64 ((i + 1 : Nat) : Int))]) ⟨rfl, rfl, rfl, rfl, trivial⟩
        clear F20
        refine kFin rfl ?_
        refine frThenN ⟨⟨i + 1, by omega, F21, fun j q hj hq => ?_, HB⟩, ?_⟩
        · by_cases e : j = i
          · subst e
            have := HP.out.symm.trans hq
            cases this
            exact hR
          · exact HJ.out j q (by omega) hq
        · rw [show intOf (a20.tmps.getD 8 undef) = ((i + 1 : Nat) : Int) by rw [F21.ev 8 rfl]; rfl]
          omega
    · skip
      refine kGo ?_
      refine kTake (v := .bool false) FL rfl rfl rfl rfl ?y22 (fun a22 F22 => ?h22)
      case y22 =>
        have e7 := FL.ev 7 rfl; have g7 := FL.get 7 _ rfl; have e8 := FL.ev 8 rfl; have g8 := FL.get 8 _ rfl
        first | (go_simp; done) | (go_simp; omega)
      clear FL aL
      refine kFin rfl ?_
      refine frNext ?_
      refine wp_seq ?_
      refine frCond (b := false) F22 rfl ?_
      simp only [Bool.false_eq_true, if_false]
      refine wp_exit ?_
      refine frThenE ?_
      refine frThenE ?_
      refine frBlkE ?_
      refine frNext ?_
      refine wp_seq ?_
      refine kGo ?_
      refine kMove F22 rfl rfl rfl rfl rfl (fun a23 F23 => ?_)
      clear F22 a22
      refine kFin rfl ?_
      have hin : i = n := by omega
      subst hin
      have hF := allR_getD (l := l) (by rw [hl]; exact fun j p h1 h2 => HJ.out j p h1 h2)
      refine frNext ?_
      refine wp_ret ?_
      exact frRet1 rfl F23 rfl ⟨⟨_, rfl, by rw [hF]; rfl⟩, HB⟩
theorem ContainsFunc_op (A : Option Addr) (n c : Nat) (l : List OpV) (w : World) (h : IsOps w A n c l) (hg : RootsAt w) :
    Calls Tryd.prog 87 #[.slice A n c, nrF] w fun e w' => e = .returned (.bool (!opsOk (l.map OpV.d))) ∧ Below w.heap.size w w' := by
  refine frCall (args := [.slice A n c, nrF]) (N := 9) Tryd.func87 rfl rfl rfl (fun a0 F0 => ?_)
  refine wp_seq ?_
  refine kGo ?_
  refine kMove F0 rfl rfl rfl rfl rfl (fun a1 F1 => ?_)
  clear F0 a0
  refine kFin rfl ?_
  refine frNext ?_
  refine wp_seq ?_
  refine kGo ?_
  refine kMove F1 rfl rfl rfl rfl rfl (fun a2 F2 => ?_)
  clear F1 a1
  refine kMove F2 rfl rfl rfl rfl rfl (fun a3 F3 => ?_)
  clear F2 a2
  refine kCall F3 rfl rfl rfl rfl (IndexFunc_op A n c l _ h hg) ?y4 ?h4
  case y4 =>
    have e5 := F3.ev 5 rfl; have g5 := F3.get 5 _ rfl; have e6 := F3.ev 6 rfl; have g6 := F3.get 6 _ rfl
    go_simp; try with_reducible rfl
  rintro e wN ⟨⟨i, rfl, hi⟩, hb⟩
  have HI := hid hi
  clear hi
  refine ⟨_, rfl, fun a4 F4 => ?_⟩
  clear F3 a3
  refine kTake (v := .bool (decide (0 ≤ i))) F4 rfl rfl rfl rfl ?y5 (fun a5 F5 => ?h5)
  case y5 =>
    have e7 := F4.ev 7 rfl; have g7 := F4.get 7 _ rfl
    go_simp; try with_reducible rfl
  clear F4 a4
  refine kMove F5 rfl rfl rfl rfl rfl (fun a6 F6 => ?_)
  clear F5 a5
  refine kFin rfl ?_
  refine frNext ?_
  refine wp_ret ?_
  exact frRet1 rfl F6 rfl ⟨by rw [HI.out]; rfl, hb⟩
set_option maxRecDepth 100000 in
set_option maxHeartbeats 4000000 in
theorem BRight_any (b : BtD) (A : Option Addr) (n c : Nat) (l : List OpV) (w : World) (h : BtIs w b A n c l) (hg : RootsAt w) :
    Calls Tryd.prog 41 #[btv b.rep b.seq b.time A n c] w fun e w' => e = .returned (.bool (bright b)) ∧ Below w.heap.size w w' := by
  have hln := h.len
  have hcap := h.ops.cap
  have hmax := h.ops.max
  have FB := hid (show bright b = (bc1 b && bc2 b && bc3 b && bc4 b && bc5 b && bc6 b && bc7 b && bc8 b && opsOk (l.map OpV.d)) by rw [← h.eq]; rfl)
  have C1 := hid (show bc1 b = decide (0 ≤ b.rep) from rfl)
  have C2 := hid (show bc2 b = decide (b.rep < 16) from rfl)
  have C3 := hid (show bc3 b = decide (0 < b.seq) from rfl)
  have C4 := hid (show bc4 b = decide (b.seq ≤ 512) from rfl)
  have C5 := hid (show bc5 b = decide ((0 : Int) < (n : Int)) by rw [← hln]; simp [bc5])
  have C6 := hid (show bc6 b = decide ((n : Int) ≤ 64) by rw [← hln, Bool.eq_iff_iff]; simp [bc6]; omega)
  have C7 := hid (show bc7 b = decide (0 < b.time) from rfl)
  have C8 := hid (show bc8 b = decide (b.time ≤ 1099511627776 - ((n : Int) - 1)) by rw [← hln]; rfl)
  clear hln
  have HB := Below.refl w.heap.size w
  obtain ⟨x, hx⟩ : ∃ x, b.rep = x := ⟨_, rfl⟩
  obtain ⟨y, hy⟩ : ∃ x, b.seq = x := ⟨_, rfl⟩
  obtain ⟨z, hz⟩ : ∃ x, b.time = x := ⟨_, rfl⟩
  rw [hx] at C1 C2
  rw [hy] at C3 C4
  rw [hz] at C7 C8
  rw [hx, hy, hz]
  clear hx hy hz
  refine frCall (args := [btv x y z A n c]) (N := 52) Tryd.func41 rfl rfl rfl (fun a0 F0 => ?_)
  refine wp_seq ?_
  refine kGo ?_
  refine kVal (v := ?v1) (w' := w.alloc (bto x y z A n c)) F0 rfl rfl rfl rfl ?y1 (fun a1 F1 => ?h1)
  case y1 =>
    have e0 := F0.ev 0 rfl; have g0 := F0.get 0 _ rfl
    go_simp
    all_goals (first | with_reducible rfl | (constructor <;> first | with_reducible rfl | rfl) | skip)
  clear F0 a0
  refine kMove F1 rfl rfl rfl rfl rfl (fun a2 F2 => ?_)
  clear F1 a1
  have F3 := F2.sub (l' := [(1, .pointer (some ⟨w.heap.size, 0, none⟩))]) ⟨rfl, trivial⟩
  clear F2
  have hb := below_alloc1 w (bto x y z A n c)
  have OX := BAt.new w x y z A n c _ rfl
  replace hg := hg.below hb
  replace h := h.below hb
  replace HB := below_then HB hb
  clear hb
  generalize w.alloc (bto x y z A n c) = w1 at *
  refine kFin rfl ?_
  refine frNext ?_
  refine wp_seq ?_
  refine kGo ?_
  refine kTake (v := ?v4) F3 rfl rfl rfl rfl ?y4 (fun a4 F4 => ?h4)
  case y4 =>
    have e1 := F3.ev 1 rfl; have g1 := F3.get 1 _ rfl
    go_simp; try with_reducible rfl
  clear F3 a2
  refine kTake (v := ?v5) F4 rfl rfl rfl rfl ?y5 (fun a5 F5 => ?h5)
  case y5 =>
    have q := OX.cs; have y0 := q.c0; have y1 := q.c1; have y2 := q.c2; have y3 := q.c3; clear q; have e4 := F4.ev 4 rfl; have g4 := F4.get 4 _ rfl
    go_simp; try with_reducible rfl
  clear F4 a4
  refine kTake (v := ?v6) F5 rfl rfl rfl rfl ?y6 (fun a6 F6 => ?h6)
  case y6 =>
    have e5 := F5.ev 5 rfl; have g5 := F5.get 5 _ rfl
    go_simp; try with_reducible rfl
  clear F5 a5
  refine kMove F6 rfl rfl rfl rfl rfl (fun a7 F7 => ?_)
  clear F6 a6
  have F8 := F7.sub (l' := [(1, .pointer (some ⟨w.heap.size, 0, none⟩)), (3, .int .i64 (n : Int))]) ⟨rfl, rfl, trivial⟩
  clear F7
  refine kFin rfl ?_
  refine frNext ?_
  refine wp_seq ?_
  refine kGo ?_
  refine kTake (v := ?v9) F8 rfl rfl rfl rfl ?y9 (fun a9 F9 => ?h9)
  case y9 =>
    have e1 := F8.ev 1 rfl; have g1 := F8.get 1 _ rfl
    go_simp; try with_reducible rfl
  clear F8 a7
  refine kTake (v := ?v10) F9 rfl rfl rfl rfl ?y10 (fun a10 F10 => ?h10)
  case y10 =>
    have q := OX.cs; have y0 := q.c0; have y1 := q.c1; have y2 := q.c2; have y3 := q.c3; clear q; have e7 := F9.ev 7 rfl; have g7 := F9.get 7 _ rfl
    go_simp; try with_reducible rfl
  clear F9 a9
  refine kTake (v := .bool (bc1 b)) F10 rfl rfl rfl rfl ?y11 (fun a11 F11 => ?h11)
  case y11 =>
    have e8 := F10.ev 8 rfl; have g8 := F10.get 8 _ rfl
    rw [C1.out]
    go_simp
  clear F10 a10
  rcases hc1 : bc1 b with _ | _
  · skip
    rw [hc1] at F11
    have FF : bright b = false := by rw [FB.out, hc1]; simp
    refine kRuns 60 F11 rfl (fun a12 F12 => ?_)
    clear F11 a11
    have F13 := F12.sub (l' := [(2, .bool false)]) ⟨rfl, trivial⟩
    clear F12
    refine kFin rfl ?_
    refine frNext ?_
    refine wp_ret ?_
    exact frRet1 rfl F13 rfl ⟨by rw [FF], HB⟩
  · skip
    rw [hc1] at F11
    refine kMove F11 rfl rfl rfl rfl rfl (fun a14 F14 => ?_)
    clear F11 a11
    refine kTake (v := ?v15) F14 rfl rfl rfl rfl ?y15 (fun a15 F15 => ?h15)
    case y15 =>
      have e1 := F14.ev 1 rfl; have g1 := F14.get 1 _ rfl
      go_simp; try with_reducible rfl
    clear F14 a14
    refine kTake (v := ?v16) F15 rfl rfl rfl rfl ?y16 (fun a16 F16 => ?h16)
    case y16 =>
      have q := OX.cs; have y0 := q.c0; have y1 := q.c1; have y2 := q.c2; have y3 := q.c3; clear q; have e11 := F15.ev 11 rfl; have g11 := F15.get 11 _ rfl
      go_simp; try with_reducible rfl
    clear F15 a15
    refine kTake (v := .bool (bc2 b)) F16 rfl rfl rfl rfl ?y17 (fun a17 F17 => ?h17)
    case y17 =>
      have e12 := F16.ev 12 rfl; have g12 := F16.get 12 _ rfl
      rw [C2.out]
      go_simp
    clear F16 a16
    rcases hc2 : bc2 b with _ | _
    · skip
      rw [hc2] at F17
      have FF : bright b = false := by rw [FB.out, hc2]; simp
      refine kRuns 60 F17 rfl (fun a18 F18 => ?_)
      clear F17 a17
      have F19 := F18.sub (l' := [(2, .bool false)]) ⟨rfl, trivial⟩
      clear F18
      refine kFin rfl ?_
      refine frNext ?_
      refine wp_ret ?_
      exact frRet1 rfl F19 rfl ⟨by rw [FF], HB⟩
    · skip
      rw [hc2] at F17
      refine kMove F17 rfl rfl rfl rfl rfl (fun a20 F20 => ?_)
      clear F17 a17
      refine kMove F20 rfl rfl rfl rfl rfl (fun a21 F21 => ?_)
      clear F20 a20
      refine kTake (v := ?v22) F21 rfl rfl rfl rfl ?y22 (fun a22 F22 => ?h22)
      case y22 =>
        have e1 := F21.ev 1 rfl; have g1 := F21.get 1 _ rfl
        go_simp; try with_reducible rfl
      clear F21 a21
      refine kTake (v := ?v23) F22 rfl rfl rfl rfl ?y23 (fun a23 F23 => ?h23)
      case y23 =>
        have q := OX.cs; have y0 := q.c0; have y1 := q.c1; have y2 := q.c2; have y3 := q.c3; clear q; have e16 := F22.ev 16 rfl; have g16 := F22.get 16 _ rfl
        go_simp; try with_reducible rfl
      clear F22 a22
      refine kTake (v := .bool (bc3 b)) F23 rfl rfl rfl rfl ?y24 (fun a24 F24 => ?h24)
      case y24 =>
        have e17 := F23.ev 17 rfl; have g17 := F23.get 17 _ rfl
        rw [C3.out]
        go_simp
      clear F23 a23
      rcases hc3 : bc3 b with _ | _
      · skip
        rw [hc3] at F24
        have FF : bright b = false := by rw [FB.out, hc3]; simp
        refine kRuns 60 F24 rfl (fun a25 F25 => ?_)
        clear F24 a24
        have F26 := F25.sub (l' := [(2, .bool false)]) ⟨rfl, trivial⟩
        clear F25
        refine kFin rfl ?_
        refine frNext ?_
        refine wp_ret ?_
        exact frRet1 rfl F26 rfl ⟨by rw [FF], HB⟩
      · skip
        rw [hc3] at F24
        refine kMove F24 rfl rfl rfl rfl rfl (fun a27 F27 => ?_)
        clear F24 a24
        refine kMove F27 rfl rfl rfl rfl rfl (fun a28 F28 => ?_)
        clear F27 a27
        refine kTake (v := ?v29) F28 rfl rfl rfl rfl ?y29 (fun a29 F29 => ?h29)
        case y29 =>
          have e1 := F28.ev 1 rfl; have g1 := F28.get 1 _ rfl
          go_simp; try with_reducible rfl
        clear F28 a28
        refine kTake (v := ?v30) F29 rfl rfl rfl rfl ?y30 (fun a30 F30 => ?h30)
        case y30 =>
          have q := OX.cs; have y0 := q.c0; have y1 := q.c1; have y2 := q.c2; have y3 := q.c3; clear q; have e21 := F29.ev 21 rfl; have g21 := F29.get 21 _ rfl
          go_simp; try with_reducible rfl
        clear F29 a29
        refine kTake (v := .bool (bc4 b)) F30 rfl rfl rfl rfl ?y31 (fun a31 F31 => ?h31)
        case y31 =>
          have e22 := F30.ev 22 rfl; have g22 := F30.get 22 _ rfl
          rw [C4.out]
          go_simp
        clear F30 a30
        rcases hc4 : bc4 b with _ | _
        · skip
          rw [hc4] at F31
          have FF : bright b = false := by rw [FB.out, hc4]; simp
          refine kRuns 60 F31 rfl (fun a32 F32 => ?_)
          clear F31 a31
          have F33 := F32.sub (l' := [(2, .bool false)]) ⟨rfl, trivial⟩
          clear F32
          refine kFin rfl ?_
          refine frNext ?_
          refine wp_ret ?_
          exact frRet1 rfl F33 rfl ⟨by rw [FF], HB⟩
        · skip
          rw [hc4] at F31
          refine kMove F31 rfl rfl rfl rfl rfl (fun a34 F34 => ?_)
          clear F31 a31
          refine kMove F34 rfl rfl rfl rfl rfl (fun a35 F35 => ?_)
          clear F34 a34
          refine kMove F35 rfl rfl rfl rfl rfl (fun a36 F36 => ?_)
          clear F35 a35
          refine kTake (v := .bool (bc5 b)) F36 rfl rfl rfl rfl ?y37 (fun a37 F37 => ?h37)
          case y37 =>
            have e26 := F36.ev 26 rfl; have g26 := F36.get 26 _ rfl
            rw [C5.out]
            go_simp
          clear F36 a36
          rcases hc5 : bc5 b with _ | _
          · skip
            rw [hc5] at F37
            have FF : bright b = false := by rw [FB.out, hc5]; simp
            refine kRuns 60 F37 rfl (fun a38 F38 => ?_)
            clear F37 a37
            have F39 := F38.sub (l' := [(2, .bool false)]) ⟨rfl, trivial⟩
            clear F38
            refine kFin rfl ?_
            refine frNext ?_
            refine wp_ret ?_
            exact frRet1 rfl F39 rfl ⟨by rw [FF], HB⟩
          · skip
            rw [hc5] at F37
            refine kMove F37 rfl rfl rfl rfl rfl (fun a40 F40 => ?_)
            clear F37 a37
            refine kMove F40 rfl rfl rfl rfl rfl (fun a41 F41 => ?_)
            clear F40 a40
            refine kMove F41 rfl rfl rfl rfl rfl (fun a42 F42 => ?_)
            clear F41 a41
            refine kTake (v := .bool (bc6 b)) F42 rfl rfl rfl rfl ?y43 (fun a43 F43 => ?h43)
            case y43 =>
              have e30 := F42.ev 30 rfl; have g30 := F42.get 30 _ rfl
              rw [C6.out]
              go_simp
            clear F42 a42
            rcases hc6 : bc6 b with _ | _
            · skip
              rw [hc6] at F43
              have FF : bright b = false := by rw [FB.out, hc6]; simp
              refine kRuns 60 F43 rfl (fun a44 F44 => ?_)
              clear F43 a43
              have F45 := F44.sub (l' := [(2, .bool false)]) ⟨rfl, trivial⟩
              clear F44
              refine kFin rfl ?_
              refine frNext ?_
              refine wp_ret ?_
              exact frRet1 rfl F45 rfl ⟨by rw [FF], HB⟩
            · skip
              rw [hc6] at F43
              refine kMove F43 rfl rfl rfl rfl rfl (fun a46 F46 => ?_)
              clear F43 a43
              refine kMove F46 rfl rfl rfl rfl rfl (fun a47 F47 => ?_)
              clear F46 a46
              refine kTake (v := ?v48) F47 rfl rfl rfl rfl ?y48 (fun a48 F48 => ?h48)
              case y48 =>
                have e1 := F47.ev 1 rfl; have g1 := F47.get 1 _ rfl
                go_simp; try with_reducible rfl
              clear F47 a47
              refine kTake (v := ?v49) F48 rfl rfl rfl rfl ?y49 (fun a49 F49 => ?h49)
              case y49 =>
                have q := OX.cs; have y0 := q.c0; have y1 := q.c1; have y2 := q.c2; have y3 := q.c3; clear q; have e34 := F48.ev 34 rfl; have g34 := F48.get 34 _ rfl
                go_simp; try with_reducible rfl
              clear F48 a48
              refine kTake (v := .bool (bc7 b)) F49 rfl rfl rfl rfl ?y50 (fun a50 F50 => ?h50)
              case y50 =>
                have e35 := F49.ev 35 rfl; have g35 := F49.get 35 _ rfl
                rw [C7.out]
                go_simp
              clear F49 a49
              rcases hc7 : bc7 b with _ | _
              · skip
                rw [hc7] at F50
                have FF : bright b = false := by rw [FB.out, hc7]; simp
                refine kRuns 60 F50 rfl (fun a51 F51 => ?_)
                clear F50 a50
                have F52 := F51.sub (l' := [(2, .bool false)]) ⟨rfl, trivial⟩
                clear F51
                refine kFin rfl ?_
                refine frNext ?_
                refine wp_ret ?_
                exact frRet1 rfl F52 rfl ⟨by rw [FF], HB⟩
              · skip
                rw [hc7] at F50
                refine kMove F50 rfl rfl rfl rfl rfl (fun a53 F53 => ?_)
                clear F50 a50
                refine kMove F53 rfl rfl rfl rfl rfl (fun a54 F54 => ?_)
                clear F53 a53
                refine kTake (v := ?v55) F54 rfl rfl rfl rfl ?y55 (fun a55 F55 => ?h55)
                case y55 =>
                  have e1 := F54.ev 1 rfl; have g1 := F54.get 1 _ rfl
                  go_simp; try with_reducible rfl
                clear F54 a54
                refine kTake (v := ?v56) F55 rfl rfl rfl rfl ?y56 (fun a56 F56 => ?h56)
                case y56 =>
                  have q := OX.cs; have y0 := q.c0; have y1 := q.c1; have y2 := q.c2; have y3 := q.c3; clear q; have e39 := F55.ev 39 rfl; have g39 := F55.get 39 _ rfl
                  go_simp; try with_reducible rfl
                clear F55 a55
                refine kMove F56 rfl rfl rfl rfl rfl (fun a57 F57 => ?_)
                clear F56 a56
                refine kTake (v := .int .i64 ((n : Int) - 1)) F57 rfl rfl rfl rfl ?y58 (fun a58 F58 => ?h58)
                case y58 =>
                  have e41 := F57.ev 41 rfl; have g41 := F57.get 41 _ rfl
                  first | (go_simp; done) | (go_simp; simp only [IntKind.wrap_i64]; omega)
                clear F57 a57
                refine kTake (v := .int .i64 (1099511627776 - ((n : Int) - 1))) F58 rfl rfl rfl rfl ?y59 (fun a59 F59 => ?h59)
                case y59 =>
                  have e42 := F58.ev 42 rfl; have g42 := F58.get 42 _ rfl
                  first | (go_simp; done) | (go_simp; simp only [IntKind.wrap_i64]; omega)
                clear F58 a58
                refine kTake (v := .bool (bc8 b)) F59 rfl rfl rfl rfl ?y60 (fun a60 F60 => ?h60)
                case y60 =>
                  have e40 := F59.ev 40 rfl; have g40 := F59.get 40 _ rfl; have e43 := F59.ev 43 rfl; have g43 := F59.get 43 _ rfl
                  rw [C8.out]
                  go_simp
                clear F59 a59
                rcases hc8 : bc8 b with _ | _
                · skip
                  rw [hc8] at F60
                  have FF : bright b = false := by rw [FB.out, hc8]; simp
                  refine kRuns 60 F60 rfl (fun a61 F61 => ?_)
                  clear F60 a60
                  have F62 := F61.sub (l' := [(2, .bool false)]) ⟨rfl, trivial⟩
                  clear F61
                  refine kFin rfl ?_
                  refine frNext ?_
                  refine wp_ret ?_
                  exact frRet1 rfl F62 rfl ⟨by rw [FF], HB⟩
                · skip
                  rw [hc8] at F60
                  refine kMove F60 rfl rfl rfl rfl rfl (fun a63 F63 => ?_)
                  clear F60 a60
                  refine kMove F63 rfl rfl rfl rfl rfl (fun a64 F64 => ?_)
                  clear F63 a63
                  refine kTake (v := ?v65) F64 rfl rfl rfl rfl ?y65 (fun a65 F65 => ?h65)
                  case y65 =>
                    have e1 := F64.ev 1 rfl; have g1 := F64.get 1 _ rfl
                    go_simp; try with_reducible rfl
                  clear F64 a64
                  refine kTake (v := ?v66) F65 rfl rfl rfl rfl ?y66 (fun a66 F66 => ?h66)
                  case y66 =>
                    have q := OX.cs; have y0 := q.c0; have y1 := q.c1; have y2 := q.c2; have y3 := q.c3; clear q; have e47 := F65.ev 47 rfl; have g47 := F65.get 47 _ rfl
                    go_simp; try with_reducible rfl
                  clear F65 a65
                  refine kCall F66 rfl rfl rfl rfl (ContainsFunc_op A n c l _ h.ops hg) ?y67 ?h67
                  case y67 =>
                    have e48 := F66.ev 48 rfl; have g48 := F66.get 48 _ rfl
                    go_simp; try with_reducible rfl
                  rintro e wN ⟨rfl, hb⟩
                  replace hg := hg.below hb
                  replace h := h.below hb
                  replace OX := OX.below hb
                  replace HB := below_then HB hb
                  clear hb
                  refine ⟨_, rfl, fun a67 F67 => ?_⟩
                  clear F66 a66
                  refine kMove F67 rfl rfl rfl rfl rfl (fun a68 F68 => ?_)
                  clear F67 a67
                  refine kMove F68 rfl rfl rfl rfl rfl (fun a69 F69 => ?_)
                  clear F68 a68
                  refine kMove F69 rfl rfl rfl rfl rfl (fun a70 F70 => ?_)
                  clear F69 a69
                  refine kFin rfl ?_
                  refine frNext ?_
                  refine wp_ret ?_
                  exact frRet1 rfl F70 rfl ⟨by rw [FB.out, hc1, hc2, hc3, hc4, hc5, hc6, hc7, hc8]; simp, HB⟩
end Go.Proofs.YtnakanophilfhaaDoor
/- BtB: Layer 8: are batches the same. -/
namespace Go.Proofs.YtnakanophilfhaaDoor
open Go.RowKit Go.Dio
set_option linter.unusedVariables false
set_option linter.unusedSimpArgs false

@[reducible] def smF : Value := .func (.func 15) #[] #[]
theorem osames_at : ∀ {l m : List OpD}, l.length = m.length → (∀ (i : Nat) (a b : OpD), l[i]? = some a → m[i]? = some b → osame a b = true) → osames l m = true
  | [], [], _, _ => rfl
  | a :: l, b :: m, hl, h => by
    have h0 := h 0 a b rfl rfl
    have h1 := osames_at (l := l) (m := m) (by simpa using hl) fun i x y hx hy => h (i + 1) x y (by simpa using hx) (by simpa using hy)
    simp [osames, h0, h1]
  | [], b :: m, hl, _ => by simp at hl
  | a :: l, [], hl, _ => by simp at hl
theorem osames_no : ∀ {l m : List OpD} {i : Nat} {a b : OpD}, l[i]? = some a → m[i]? = some b → osame a b = false → osames l m = false
  | [], m, i, a, b, h, _, _ => by simp at h
  | x :: l, [], i, a, b, _, h, _ => by simp at h
  | x :: l, y :: m, 0, a, b, h1, h2, h => by
    simp at h1 h2
    subst h1 h2
    simp [osames, h]
  | x :: l, y :: m, i + 1, a, b, h1, h2, h => by
    have := osames_no (l := l) (m := m) (i := i) (by simpa using h1) (by simpa using h2) h
    simp [osames, this]
theorem osames_len : ∀ {l m : List OpD}, l.length ≠ m.length → osames l m = false
  | [], [], h => by simp at h
  | a :: l, b :: m, h => by
    have := osames_len (l := l) (m := m) (by simpa using h)
    simp [osames, this]
  | [], b :: m, _ => rfl
  | a :: l, [], _ => rfl
set_option maxRecDepth 100000 in
set_option maxHeartbeats 4000000 in
theorem EqualFunc_op (A : Option Addr) (n c : Nat) (l : List OpV) (A' : Option Addr) (n' c' : Nat) (l' : List OpV) (w : World) (h : IsOps w A n c l) (h' : IsOps w A' n' c' l') :
    Calls Tryd.prog 90 #[.slice A n c, .slice A' n' c', smF] w fun e w' => e = .returned (.bool (osames (l.map OpV.d) (l'.map OpV.d))) ∧ Below w.heap.size w w' := by
  have hl := h.len
  have hl' := h'.len
  have hc := h.cap; have hm := h.max; have hc' := h'.cap; have hm' := h'.max
  have HB := Below.refl w.heap.size w
  have HH := hid h
  have HH' := hid h'
  clear h h'
  refine frCall (args := [.slice A n c, .slice A' n' c', smF]) (N := 32) Tryd.func90 rfl rfl rfl (fun a0 F0 => ?_)
  refine wp_seq ?_
  refine kGo ?_
  refine kMove F0 rfl rfl rfl rfl rfl (fun a1 F1 => ?_)
  clear F0 a0
  refine kFin rfl ?_
  refine frNext ?_
  refine wp_seq ?_
  refine wp_seq ?_
  refine kGo ?_
  refine kMove F1 rfl rfl rfl rfl rfl (fun a2 F2 => ?_)
  clear F1 a1
  refine kTake (v := ?v3) F2 rfl rfl rfl rfl ?y3 (fun a3 F3 => ?h3)
  case y3 =>
    have e10 := F2.ev 10 rfl; have g10 := F2.get 10 _ rfl
    go_simp; try with_reducible rfl
  clear F2 a2
  refine kMove F3 rfl rfl rfl rfl rfl (fun a4 F4 => ?_)
  clear F3 a3
  refine kTake (v := ?v5) F4 rfl rfl rfl rfl ?y5 (fun a5 F5 => ?h5)
  case y5 =>
    have e12 := F4.ev 12 rfl; have g12 := F4.get 12 _ rfl
    go_simp; try with_reducible rfl
  clear F4 a4
  by_cases hnn : ¬ n = n'
  · skip
    refine kTake (v := .bool true) F5 rfl rfl rfl rfl ?y6 (fun a6 F6 => ?h6)
    case y6 =>
      have e11 := F5.ev 11 rfl; have g11 := F5.get 11 _ rfl; have e13 := F5.ev 13 rfl; have g13 := F5.get 13 _ rfl
      first | (go_simp; done) | (go_simp; omega)
    clear F5 a5
    refine kFin rfl ?_
    refine frNext ?_
    refine frCond (b := true) F6 rfl ?_
    simp only [if_true]
    refine wp_seq ?_
    refine kGo ?_
    refine kMove F6 rfl rfl rfl rfl rfl (fun a7 F7 => ?_)
    clear F6 a6
    refine kFin rfl ?_
    refine frNext ?_
    refine wp_ret ?_
    refine frThenRet ?_
    exact frRet1 rfl F7 rfl ⟨by rw [osames_len (by simp only [List.length_map]; omega)], HB⟩
  · skip
    obtain rfl : n = n' := by omega
    refine kTake (v := .bool false) F5 rfl rfl rfl rfl ?y8 (fun a8 F8 => ?h8)
    case y8 =>
      have e11 := F5.ev 11 rfl; have g11 := F5.get 11 _ rfl; have e13 := F5.ev 13 rfl; have g13 := F5.get 13 _ rfl
      first | (go_simp; done) | (go_simp; omega)
    clear F5 a5
    refine kFin rfl ?_
    refine frNext ?_
    refine frCond (b := false) F8 rfl ?_
    simp only [Bool.false_eq_true, if_false]
    refine wp_skip ?_
    refine frNext ?_
    refine wp_seq ?_
    refine wp_seq ?_
    refine kGo ?_
    refine kMove F8 rfl rfl rfl rfl rfl (fun a9 F9 => ?_)
    clear F8 a8
    refine kTake (v := ?v10) F9 rfl rfl rfl rfl ?y10 (fun a10 F10 => ?h10)
    case y10 =>
      have e15 := F9.ev 15 rfl; have g15 := F9.get 15 _ rfl
      go_simp; try with_reducible rfl
    clear F9 a9
    refine kMove F10 rfl rfl rfl rfl rfl (fun a11 F11 => ?_)
    clear F10 a10
    have F12 := F11.sub (l' := [(0, .slice A n c), (1, (.slice A' n c')), (2, smF), (15, .slice A n c), (16, .int .i64 (n : Int)), (17, .int .i64 0)]) ⟨rfl, rfl, rfl, rfl, rfl, rfl, trivial⟩
    clear F11
    refine kFin rfl ?_
    refine frNext ?_
    refine frBlock ?_
    refine wp_loop (fun aL wL => ∃ (i : Nat), i ≤ n ∧ Fr aL 32 [(0, .slice A n c), (1, (.slice A' n c')), (2, smF), (15, .slice A n c), (16, .int .i64 (n : Int)), (17, .int .i64 (i : Int))] ∧ (∀ j p q, j < i → l[j]? = some p → l'[j]? = some q → osame p.d q.d = true) ∧ Below w.heap.size w wL) (fun aL _ => n - (intOf (aL.tmps.getD 17 undef)).toNat) ?st ?rd
    case st => exact ⟨0, by omega, F12, fun j p q hj => absurd hj (by omega), HB⟩
    case rd =>
      clear HB F12 a11
      rintro aL wL ⟨i, hi, FL, hj, HB⟩
      have HJ := hid hj
      clear hj
      rw [show intOf (aL.tmps.getD 17 undef) = (i : Int) by rw [FL.ev 17 rfl]; rfl]
      refine wp_seq ?_
      by_cases hlt : i < n
      · skip
        refine kGo ?_
        refine kTake (v := .bool true) FL rfl rfl rfl rfl ?y13 (fun a13 F13 => ?h13)
        case y13 =>
          have e16 := FL.ev 16 rfl; have g16 := FL.get 16 _ rfl; have e17 := FL.ev 17 rfl; have g17 := FL.get 17 _ rfl
          first | (go_simp; done) | (go_simp; omega)
        clear FL aL
        refine kFin rfl ?_
        refine frNext ?_
        refine wp_seq ?_
        refine frCond (b := true) F13 rfl ?_
        simp only [if_true]
        refine wp_skip ?_
        refine frNext ?_
        refine wp_seq ?_
        refine frBlock ?_
        refine wp_seq ?_
        have HL := HH.out.below HB
        have HL' := HH'.out.below HB
        obtain ⟨bb, oo', hA, hx⟩ := HL.at_ (by omega)
        obtain ⟨bb2, oo2, hA2, hx2⟩ := HL'.at_ (by omega)
        obtain ⟨p, hp⟩ : ∃ p, l[i]? = some p := ⟨_, List.getElem?_eq_getElem (by omega)⟩
        obtain ⟨q, hq⟩ : ∃ p, l'[i]? = some p := ⟨_, List.getElem?_eq_getElem (by omega)⟩
        have hz := hx i p hp
        have hz2 := hx2 i q hq
        have hpi := HL.each p (List.mem_of_getElem? hp)
        have hqi := HL'.each q (List.mem_of_getElem? hq)
        have HP := hid hp
        have HQ := hid hq
        subst hA hA2
        clear hx hp hx2 hq HL HL'
        refine kGo ?_
        refine kMove F13 rfl rfl rfl rfl rfl (fun a14 F14 => ?_)
        clear F13 a13
        refine kTake (v := ?v15) F14 rfl rfl rfl rfl ?y15 (fun a15 F15 => ?h15)
        case y15 =>
          have e15 := F14.ev 15 rfl; have g15 := F14.get 15 _ rfl; have e17 := F14.ev 17 rfl; have g17 := F14.get 17 _ rfl
          first | (go_simp; done) | (go_simp; omega) | (go_simp; try with_reducible rfl)
        clear F14 a14
        refine kTake (v := opv p.d p.A p.n p.c) F15 rfl rfl rfl rfl ?y16 (fun a16 F16 => ?h16)
        case y16 =>
          have y0 := hz.c0; have y1 := hz.c1; have y2 := hz.c2; have y3 := hz.c3; have y4 := hz.c4; have y5 := hz.c5; have y6 := hz.c6; have y7 := hz.c7; have y8 := hz.c8; have y9 := hz.c9; have y10 := hz.c10; have y11 := hz.c11; have e20 := F15.ev 20 rfl; have g20 := F15.get 20 _ rfl
          go_simp; try with_reducible rfl
        clear F15 a15
        refine kVal (v := ?v17) (w' := wL.alloc (oo ⟨0, 0, 0, 0, 0, ⟨#[]⟩, [], 0, 0, 0, ⟨#[]⟩, false⟩ none 0 0)) F16 rfl rfl rfl rfl ?y17 (fun a17 F17 => ?h17)
        case y17 =>
          skip
          go_simp
          all_goals (first | with_reducible rfl | (constructor <;> first | with_reducible rfl | rfl) | skip)
        clear F16 a16
        refine kMove F17 rfl rfl rfl rfl rfl (fun a18 F18 => ?_)
        clear F17 a17
        refine kStore (w' := wL.alloc (oo p.d p.A p.n p.c)) F18 rfl rfl rfl ?y19 (fun a19 F19 => ?h19)
        case y19 =>
          have e8 := F18.ev 8 rfl; have g8 := F18.get 8 _ rfl; have e21 := F18.ev 21 rfl; have g21 := F18.get 21 _ rfl
          go_simp; try with_reducible rfl
        clear F18 a18
        clear hz
        have hb := below_alloc1 wL (oo p.d p.A p.n p.c)
        have OX := OAt.new wL p.d p.A p.n p.c _ rfl
        replace hpi := hpi.below hb
        replace hqi := hqi.below hb
        have hz3 : At12 (wL.alloc (oo p.d p.A p.n p.c)) bb2 (oo2 + i * 12) q := hz2.below hb
        replace HB := below_then HB hb
        clear hb hz2
        generalize hbx : wL.heap.size = bx at *
        clear hbx
        generalize wL.alloc (oo p.d p.A p.n p.c) = w2 at *
        have F20 := F19.sub (l' := [(0, .slice (some ⟨bb, oo', none⟩) n c), (1, (.slice (some ⟨bb2, oo2, none⟩) n c')), (2, smF), (15, .slice (some ⟨bb, oo', none⟩) n c), (16, .int .i64 (n : Int)), (17, .int .i64 (i : Int)), (7, .int .i64 (i : Int)), (8, .pointer (some ⟨bx, 0, none⟩))]) ⟨rfl, rfl, rfl, rfl, rfl, rfl, rfl, rfl, trivial⟩
        clear F19
        refine kFin rfl ?_
        refine frNext ?_
        refine wp_seq ?_
        refine kGo ?_
        refine kMove F20 rfl rfl rfl rfl rfl (fun a21 F21 => ?_)
        clear F20 a19
        refine kMove F21 rfl rfl rfl rfl rfl (fun a22 F22 => ?_)
        clear F21 a21
        refine kTake (v := ?v23) F22 rfl rfl rfl rfl ?y23 (fun a23 F23 => ?h23)
        case y23 =>
          have e22 := F22.ev 22 rfl; have g22 := F22.get 22 _ rfl; have e23 := F22.ev 23 rfl; have g23 := F22.get 23 _ rfl
          first | (go_simp; done) | (go_simp; omega) | (go_simp; try with_reducible rfl)
        clear F22 a22
        refine kTake (v := opv q.d q.A q.n q.c) F23 rfl rfl rfl rfl ?y24 (fun a24 F24 => ?h24)
        case y24 =>
          have y0 := hz3.c0; have y1 := hz3.c1; have y2 := hz3.c2; have y3 := hz3.c3; have y4 := hz3.c4; have y5 := hz3.c5; have y6 := hz3.c6; have y7 := hz3.c7; have y8 := hz3.c8; have y9 := hz3.c9; have y10 := hz3.c10; have y11 := hz3.c11; have e24 := F23.ev 24 rfl; have g24 := F23.get 24 _ rfl
          go_simp; try with_reducible rfl
        clear F23 a23
        refine kVal (v := ?v25) (w' := w2.alloc (oo ⟨0, 0, 0, 0, 0, ⟨#[]⟩, [], 0, 0, 0, ⟨#[]⟩, false⟩ none 0 0)) F24 rfl rfl rfl rfl ?y25 (fun a25 F25 => ?h25)
        case y25 =>
          skip
          go_simp
          all_goals (first | with_reducible rfl | (constructor <;> first | with_reducible rfl | rfl) | skip)
        clear F24 a24
        refine kStore (w' := w2.alloc (oo q.d q.A q.n q.c)) F25 rfl rfl rfl ?y26 (fun a26 F26 => ?h26)
        case y26 =>
          have e9 := F25.ev 9 rfl; have g9 := F25.get 9 _ rfl; have e25 := F25.ev 25 rfl; have g25 := F25.get 25 _ rfl
          go_simp; try with_reducible rfl
        clear F25 a25
        clear hz3
        have hb := below_alloc1 w2 (oo q.d q.A q.n q.c)
        have OY := OAt.new w2 q.d q.A q.n q.c _ rfl
        replace hpi := hpi.below hb
        replace hqi := hqi.below hb
        replace OX := OX.below hb
        replace HB := below_then HB hb
        clear hb
        generalize hby : w2.heap.size = bY at *
        clear hby
        generalize w2.alloc (oo q.d q.A q.n q.c) = w3 at *
        have F27 := F26.sub (l' := [(0, .slice (some ⟨bb, oo', none⟩) n c), (1, (.slice (some ⟨bb2, oo2, none⟩) n c')), (2, smF), (15, .slice (some ⟨bb, oo', none⟩) n c), (16, .int .i64 (n : Int)), (17, .int .i64 (i : Int)), (8, .pointer (some ⟨bx, 0, none⟩)), (9, .pointer (some ⟨bY, 0, none⟩))]) ⟨rfl, rfl, rfl, rfl, rfl, rfl, rfl, rfl, trivial⟩
        clear F26
        refine kFin rfl ?_
        refine frNext ?_
        refine wp_seq ?_
        refine kGo ?_
        refine kMove F27 rfl rfl rfl rfl rfl (fun a28 F28 => ?_)
        clear F27 a26
        refine kTake (v := opv p.d p.A p.n p.c) F28 rfl rfl rfl rfl ?y29 (fun a29 F29 => ?h29)
        case y29 =>
          have q := OX.cs; have y0 := q.c0; have y1 := q.c1; have y2 := q.c2; have y3 := q.c3; have y4 := q.c4; have y5 := q.c5; have y6 := q.c6; have y7 := q.c7; have y8 := q.c8; have y9 := q.c9; have y10 := q.c10; have y11 := q.c11; clear q; have e8 := F28.ev 8 rfl; have g8 := F28.get 8 _ rfl
          go_simp; try with_reducible rfl
        clear F28 a28
        refine kTake (v := opv q.d q.A q.n q.c) F29 rfl rfl rfl rfl ?y30 (fun a30 F30 => ?h30)
        case y30 =>
          have q := OY.cs; have y0 := q.c0; have y1 := q.c1; have y2 := q.c2; have y3 := q.c3; have y4 := q.c4; have y5 := q.c5; have y6 := q.c6; have y7 := q.c7; have y8 := q.c8; have y9 := q.c9; have y10 := q.c10; have y11 := q.c11; clear q; have e9 := F29.ev 9 rfl; have g9 := F29.get 9 _ rfl
          go_simp; try with_reducible rfl
        clear F29 a29
        refine kCall F30 rfl rfl rfl rfl (OSame_d p.d q.d p.A p.n p.c q.A q.n q.c _ hpi hqi) ?y31 ?h31
        case y31 =>
          have e26 := F30.ev 26 rfl; have g26 := F30.get 26 _ rfl; have e27 := F30.ev 27 rfl; have g27 := F30.get 27 _ rfl; have e28 := F30.ev 28 rfl; have g28 := F30.get 28 _ rfl
          go_simp; try with_reducible rfl
        rintro e wN ⟨rfl, hb⟩
        replace HB := below_then HB hb
        clear hb
        rcases hR : osame p.d q.d with _ | _
        · skip
          refine ⟨_, rfl, fun a31 F31 => ?_⟩
          clear F30 a30
          refine kMove F31 rfl rfl rfl rfl rfl (fun a32 F32 => ?_)
          clear F31 a31
          refine kFin rfl ?_
          refine frNext ?_
          refine frCond (b := true) F32 rfl ?_
          simp only [if_true]
          refine wp_seq ?_
          refine kGo ?_
          refine kMove F32 rfl rfl rfl rfl rfl (fun a33 F33 => ?_)
          clear F32 a32
          refine kFin rfl ?_
          refine frNext ?_
          refine wp_ret ?_
          refine frBlkRet ?_
          refine frThenRet ?_
          refine frThenRet ?_
          refine frBlkRet ?_
          refine frThenRet ?_
          exact frRet1 rfl F33 rfl ⟨by rw [osames_no (i := i) (a := p.d) (b := q.d) (by rw [List.getElem?_map, HP.out]; rfl) (by rw [List.getElem?_map, HQ.out]; rfl) hR], HB⟩
        · skip
          refine ⟨_, rfl, fun a31 F31 => ?_⟩
          clear F30 a30
          refine kMove F31 rfl rfl rfl rfl rfl (fun a34 F34 => ?_)
          clear F31 a31
          have F35 := F34.sub (l' := [(0, .slice (some ⟨bb, oo', none⟩) n c), (1, (.slice (some ⟨bb2, oo2, none⟩) n c')), (2, smF), (15, .slice (some ⟨bb, oo', none⟩) n c), (16, .int .i64 (n : Int)), (17, .int .i64 (i : Int)), (30, .bool false)]) ⟨rfl, rfl, rfl, rfl, rfl, rfl, rfl, trivial⟩
          clear F34
          refine kFin rfl ?_
          refine frNext ?_
          refine frCond (b := false) F35 rfl ?_
          simp only [Bool.false_eq_true, if_false]
          refine wp_skip ?_
          refine frBlkN ?_
          refine frNext ?_
          refine kGo ?_
          refine kTake (v := .int .i64 ((i + 1 : Nat) : Int)) F35 rfl rfl rfl rfl ?y36 (fun a36 F36 => ?h36)
          case y36 =>
            have e17 := F35.ev 17 rfl; have g17 := F35.get 17 _ rfl
            first | (go_simp; done) | (go_simp; simp only [IntKind.wrap_i64]; omega)
          clear F35 a34
          refine kMove F36 rfl rfl rfl rfl rfl (fun a37 F37 => ?_)
          clear F36 a36
          have F38 := F37.sub (l' := [(0, .slice (some ⟨bb, oo', none⟩) n c), (1, (.slice (some ⟨bb2, oo2, none⟩) n c')), (2, smF), (15, .slice (some ⟨bb, oo', none⟩) n c), (16, .int .i64 (n : Int)), (17, .int .i64 ((i + 1 : Nat) : Int))]) ⟨rfl, rfl, rfl, rfl, rfl, rfl, trivial⟩
          clear F37
          refine kFin rfl ?_
          refine frThenN ⟨⟨i + 1, by omega, F38, fun j x y hj hx hy => ?_, HB⟩, ?_⟩
          · by_cases e : j = i
            · subst e
              have e1 := HP.out.symm.trans hx
              have e2 := HQ.out.symm.trans hy
              cases e1
              cases e2
              exact hR
            · exact HJ.out j x y (by omega) hx hy
          · rw [show intOf (a37.tmps.getD 17 undef) = ((i + 1 : Nat) : Int) by rw [F38.ev 17 rfl]; rfl]
            omega
      · skip
        refine kGo ?_
        refine kTake (v := .bool false) FL rfl rfl rfl rfl ?y39 (fun a39 F39 => ?h39)
        case y39 =>
          have e16 := FL.ev 16 rfl; have g16 := FL.get 16 _ rfl; have e17 := FL.ev 17 rfl; have g17 := FL.get 17 _ rfl
          first | (go_simp; done) | (go_simp; omega)
        clear FL aL
        refine kFin rfl ?_
        refine frNext ?_
        refine wp_seq ?_
        refine frCond (b := false) F39 rfl ?_
        simp only [Bool.false_eq_true, if_false]
        refine wp_exit ?_
        refine frThenE ?_
        refine frThenE ?_
        refine frBlkE ?_
        refine frNext ?_
        refine wp_seq ?_
        refine kGo ?_
        refine kMove F39 rfl rfl rfl rfl rfl (fun a40 F40 => ?_)
        clear F39 a39
        refine kFin rfl ?_
        have hin : i = n := by omega
        subst hin
        have hF := osames_at (l := l.map OpV.d) (m := l'.map OpV.d) (by simp only [List.length_map]; omega) (fun j x y hx hy => by
          rw [List.getElem?_map, Option.map_eq_some_iff] at hx hy
          obtain ⟨p, hp, rfl⟩ := hx
          obtain ⟨q, hq, rfl⟩ := hy
          exact HJ.out j p q (by have := (List.getElem?_eq_some_iff.1 hp).1; omega) hp hq)
        refine frNext ?_
        refine wp_ret ?_
        exact frRet1 rfl F40 rfl ⟨by rw [hF], HB⟩
set_option maxRecDepth 100000 in
set_option maxHeartbeats 4000000 in
theorem BSame_any (b : BtD) (A : Option Addr) (n c : Nat) (l : List OpV) (b' : BtD) (A' : Option Addr) (n' c' : Nat) (l' : List OpV) (w : World) (h : BtIs w b A n c l) (h' : BtIs w b' A' n' c' l') (he : b = b') :
    Calls Tryd.prog 44 #[btv b.rep b.seq b.time A n c, btv b'.rep b'.seq b'.time A' n' c'] w fun e w' => e = .returned (.bool true) ∧ Below w.heap.size w w' := by
  have FB := hid (show osames (l.map OpV.d) (l'.map OpV.d) = true by rw [← h.eq, ← h'.eq, he]; exact osames_refl _)
  have HB := Below.refl w.heap.size w
  have D := h.ops
  have E := h'.ops
  clear h h'
  subst he
  obtain ⟨x, hx⟩ : ∃ x, b.rep = x := ⟨_, rfl⟩
  obtain ⟨y, hy⟩ : ∃ x, b.seq = x := ⟨_, rfl⟩
  obtain ⟨z, hz⟩ : ∃ x, b.time = x := ⟨_, rfl⟩
  rw [hx, hy, hz]
  clear hx hy hz
  refine frCall (args := [btv x y z A n c, btv x y z A' n' c']) (N := 31) Tryd.func44 rfl rfl rfl (fun a0 F0 => ?_)
  refine wp_seq ?_
  refine kGo ?_
  refine kVal (v := ?v1) (w' := w.alloc (bto x y z A n c)) F0 rfl rfl rfl rfl ?y1 (fun a1 F1 => ?h1)
  case y1 =>
    have e0 := F0.ev 0 rfl; have g0 := F0.get 0 _ rfl
    go_simp
    all_goals (first | with_reducible rfl | (constructor <;> first | with_reducible rfl | rfl) | skip)
  clear F0 a0
  have hb := below_alloc1 w (bto x y z A n c)
  have OX := BAt.new w x y z A n c _ rfl
  replace D := D.below hb
  replace E := E.below hb
  replace HB := below_then HB hb
  clear hb
  generalize w.alloc (bto x y z A n c) = w1 at *
  refine kVal (v := ?v2) (w' := w1.alloc (bto x y z A' n' c')) F1 rfl rfl rfl rfl ?y2 (fun a2 F2 => ?h2)
  case y2 =>
    have e1 := F1.ev 1 rfl; have g1 := F1.get 1 _ rfl
    go_simp
    all_goals (first | with_reducible rfl | (constructor <;> first | with_reducible rfl | rfl) | skip)
  clear F1 a1
  refine kMove F2 rfl rfl rfl rfl rfl (fun a3 F3 => ?_)
  clear F2 a2
  have F4 := F3.sub (l' := [(2, .pointer (some ⟨w.heap.size, 0, none⟩)), (3, .pointer (some ⟨w1.heap.size, 0, none⟩))]) ⟨rfl, rfl, trivial⟩
  clear F3
  have hb := below_alloc1 w1 (bto x y z A' n' c')
  have OY := BAt.new w1 x y z A' n' c' _ rfl
  replace D := D.below hb
  replace E := E.below hb
  replace OX := OX.below hb
  replace HB := below_then HB hb
  clear hb
  generalize hq2 : w1.heap.size = q2 at *
  clear hq2
  generalize w1.alloc (bto x y z A' n' c') = w2 at *
  refine kFin rfl ?_
  refine frNext ?_
  refine wp_seq ?_
  refine kGo ?_
  refine kTake (v := ?v5) F4 rfl rfl rfl rfl ?y5 (fun a5 F5 => ?h5)
  case y5 =>
    have e2 := F4.ev 2 rfl; have g2 := F4.get 2 _ rfl
    go_simp; try with_reducible rfl
  clear F4 a3
  refine kTake (v := ?v6) F5 rfl rfl rfl rfl ?y6 (fun a6 F6 => ?h6)
  case y6 =>
    have q := OX.cs; have y0 := q.c0; have y1 := q.c1; have y2 := q.c2; have y3 := q.c3; clear q; have q := OY.cs; have z0 := q.c0; have z1 := q.c1; have z2 := q.c2; have z3 := q.c3; clear q; have e5 := F5.ev 5 rfl; have g5 := F5.get 5 _ rfl
    go_simp; try with_reducible rfl
  clear F5 a5
  refine kTake (v := ?v7) F6 rfl rfl rfl rfl ?y7 (fun a7 F7 => ?h7)
  case y7 =>
    have e3 := F6.ev 3 rfl; have g3 := F6.get 3 _ rfl
    go_simp; try with_reducible rfl
  clear F6 a6
  refine kTake (v := ?v8) F7 rfl rfl rfl rfl ?y8 (fun a8 F8 => ?h8)
  case y8 =>
    have q := OX.cs; have y0 := q.c0; have y1 := q.c1; have y2 := q.c2; have y3 := q.c3; clear q; have q := OY.cs; have z0 := q.c0; have z1 := q.c1; have z2 := q.c2; have z3 := q.c3; clear q; have e7 := F7.ev 7 rfl; have g7 := F7.get 7 _ rfl
    go_simp; try with_reducible rfl
  clear F7 a7
  refine kTake (v := .bool true) F8 rfl rfl rfl rfl ?y9 (fun a9 F9 => ?h9)
  case y9 =>
    have e6 := F8.ev 6 rfl; have g6 := F8.get 6 _ rfl; have e8 := F8.ev 8 rfl; have g8 := F8.get 8 _ rfl
    go_simp; try with_reducible rfl
  clear F8 a8
  refine kMove F9 rfl rfl rfl rfl rfl (fun a10 F10 => ?_)
  clear F9 a9
  refine kTake (v := ?v11) F10 rfl rfl rfl rfl ?y11 (fun a11 F11 => ?h11)
  case y11 =>
    have e2 := F10.ev 2 rfl; have g2 := F10.get 2 _ rfl
    go_simp; try with_reducible rfl
  clear F10 a10
  refine kTake (v := ?v12) F11 rfl rfl rfl rfl ?y12 (fun a12 F12 => ?h12)
  case y12 =>
    have q := OX.cs; have y0 := q.c0; have y1 := q.c1; have y2 := q.c2; have y3 := q.c3; clear q; have q := OY.cs; have z0 := q.c0; have z1 := q.c1; have z2 := q.c2; have z3 := q.c3; clear q; have e11 := F11.ev 11 rfl; have g11 := F11.get 11 _ rfl
    go_simp; try with_reducible rfl
  clear F11 a11
  refine kTake (v := ?v13) F12 rfl rfl rfl rfl ?y13 (fun a13 F13 => ?h13)
  case y13 =>
    have e3 := F12.ev 3 rfl; have g3 := F12.get 3 _ rfl
    go_simp; try with_reducible rfl
  clear F12 a12
  refine kTake (v := ?v14) F13 rfl rfl rfl rfl ?y14 (fun a14 F14 => ?h14)
  case y14 =>
    have q := OX.cs; have y0 := q.c0; have y1 := q.c1; have y2 := q.c2; have y3 := q.c3; clear q; have q := OY.cs; have z0 := q.c0; have z1 := q.c1; have z2 := q.c2; have z3 := q.c3; clear q; have e13 := F13.ev 13 rfl; have g13 := F13.get 13 _ rfl
    go_simp; try with_reducible rfl
  clear F13 a13
  refine kTake (v := .bool true) F14 rfl rfl rfl rfl ?y15 (fun a15 F15 => ?h15)
  case y15 =>
    have e12 := F14.ev 12 rfl; have g12 := F14.get 12 _ rfl; have e14 := F14.ev 14 rfl; have g14 := F14.get 14 _ rfl
    go_simp; try with_reducible rfl
  clear F14 a14
  refine kMove F15 rfl rfl rfl rfl rfl (fun a16 F16 => ?_)
  clear F15 a15
  refine kMove F16 rfl rfl rfl rfl rfl (fun a17 F17 => ?_)
  clear F16 a16
  refine kTake (v := ?v18) F17 rfl rfl rfl rfl ?y18 (fun a18 F18 => ?h18)
  case y18 =>
    have e2 := F17.ev 2 rfl; have g2 := F17.get 2 _ rfl
    go_simp; try with_reducible rfl
  clear F17 a17
  refine kTake (v := ?v19) F18 rfl rfl rfl rfl ?y19 (fun a19 F19 => ?h19)
  case y19 =>
    have q := OX.cs; have y0 := q.c0; have y1 := q.c1; have y2 := q.c2; have y3 := q.c3; clear q; have q := OY.cs; have z0 := q.c0; have z1 := q.c1; have z2 := q.c2; have z3 := q.c3; clear q; have e18 := F18.ev 18 rfl; have g18 := F18.get 18 _ rfl
    go_simp; try with_reducible rfl
  clear F18 a18
  refine kTake (v := ?v20) F19 rfl rfl rfl rfl ?y20 (fun a20 F20 => ?h20)
  case y20 =>
    have e3 := F19.ev 3 rfl; have g3 := F19.get 3 _ rfl
    go_simp; try with_reducible rfl
  clear F19 a19
  refine kTake (v := ?v21) F20 rfl rfl rfl rfl ?y21 (fun a21 F21 => ?h21)
  case y21 =>
    have q := OX.cs; have y0 := q.c0; have y1 := q.c1; have y2 := q.c2; have y3 := q.c3; clear q; have q := OY.cs; have z0 := q.c0; have z1 := q.c1; have z2 := q.c2; have z3 := q.c3; clear q; have e20 := F20.ev 20 rfl; have g20 := F20.get 20 _ rfl
    go_simp; try with_reducible rfl
  clear F20 a20
  refine kTake (v := .bool true) F21 rfl rfl rfl rfl ?y22 (fun a22 F22 => ?h22)
  case y22 =>
    have e19 := F21.ev 19 rfl; have g19 := F21.get 19 _ rfl; have e21 := F21.ev 21 rfl; have g21 := F21.get 21 _ rfl
    go_simp; try with_reducible rfl
  clear F21 a21
  refine kMove F22 rfl rfl rfl rfl rfl (fun a23 F23 => ?_)
  clear F22 a22
  refine kMove F23 rfl rfl rfl rfl rfl (fun a24 F24 => ?_)
  clear F23 a23
  refine kTake (v := ?v25) F24 rfl rfl rfl rfl ?y25 (fun a25 F25 => ?h25)
  case y25 =>
    have e2 := F24.ev 2 rfl; have g2 := F24.get 2 _ rfl
    go_simp; try with_reducible rfl
  clear F24 a24
  refine kTake (v := ?v26) F25 rfl rfl rfl rfl ?y26 (fun a26 F26 => ?h26)
  case y26 =>
    have q := OX.cs; have y0 := q.c0; have y1 := q.c1; have y2 := q.c2; have y3 := q.c3; clear q; have q := OY.cs; have z0 := q.c0; have z1 := q.c1; have z2 := q.c2; have z3 := q.c3; clear q; have e25 := F25.ev 25 rfl; have g25 := F25.get 25 _ rfl
    go_simp; try with_reducible rfl
  clear F25 a25
  refine kTake (v := ?v27) F26 rfl rfl rfl rfl ?y27 (fun a27 F27 => ?h27)
  case y27 =>
    have e3 := F26.ev 3 rfl; have g3 := F26.get 3 _ rfl
    go_simp; try with_reducible rfl
  clear F26 a26
  refine kTake (v := ?v28) F27 rfl rfl rfl rfl ?y28 (fun a28 F28 => ?h28)
  case y28 =>
    have q := OX.cs; have y0 := q.c0; have y1 := q.c1; have y2 := q.c2; have y3 := q.c3; clear q; have q := OY.cs; have z0 := q.c0; have z1 := q.c1; have z2 := q.c2; have z3 := q.c3; clear q; have e27 := F27.ev 27 rfl; have g27 := F27.get 27 _ rfl
    go_simp; try with_reducible rfl
  clear F27 a27
  refine kCall F28 rfl rfl rfl rfl (EqualFunc_op A n c l A' n' c' l' _ D E) ?y29 ?h29
  case y29 =>
    have e26 := F28.ev 26 rfl; have g26 := F28.get 26 _ rfl; have e28 := F28.ev 28 rfl; have g28 := F28.get 28 _ rfl
    go_simp; try with_reducible rfl
  rw [FB.out]
  rintro e wN ⟨rfl, hb⟩
  replace D := D.below hb
  replace E := E.below hb
  replace OX := OX.below hb
  replace OY := OY.below hb
  replace HB := below_then HB hb
  clear hb
  refine ⟨_, rfl, fun a29 F29 => ?_⟩
  clear F28 a28
  refine kMove F29 rfl rfl rfl rfl rfl (fun a30 F30 => ?_)
  clear F29 a29
  refine kMove F30 rfl rfl rfl rfl rfl (fun a31 F31 => ?_)
  clear F30 a30
  refine kFin rfl ?_
  refine frNext ?_
  refine wp_ret ?_
  exact frRet1 rfl F31 rfl ⟨rfl, HB⟩
end Go.Proofs.YtnakanophilfhaaDoor
/- BtC: Layer 8: a batch's stamps. -/
namespace Go.Proofs.YtnakanophilfhaaDoor
open Go.RowKit Go.Dio
set_option linter.unusedVariables false
set_option linter.unusedSimpArgs false

/-- A stamp is written out. -/
theorem stOut {w0 w : World} {R : Nat} (HB : Below w0.heap.size w0 w) (hR : w0.heap.size ≤ R) (S : SAt w R 0 0) (x y : Int) : SAt ((w.setCell ⟨R, 0, none⟩ (.int .i64 x)).setCell ⟨R, 1, none⟩ (.int .i64 y)) R x y ∧ Below w0.heap.size w0 ((w.setCell ⟨R, 0, none⟩ (.int .i64 x)).setCell ⟨R, 1, none⟩ (.int .i64 y)) :=
  ⟨⟨by simp [World.setCell, Array.getElem?_modify, S.own]⟩, HB.grown (grown_trans (grown_set w R 0 _) (grown_set _ R 1 _)) HB.size (fun k hk => by cases hk; exact hR)⟩
set_option maxRecDepth 100000 in
set_option maxHeartbeats 4000000 in
theorem BStamp_any (b : BtD) (i : Int) (A : Option Addr) (n c : Nat) (l : List OpV) (w : World) (h : BtIs w b A n c l) (hg : RootsAt w) :
    Calls Tryd.prog 46 #[btv b.rep b.seq b.time A n c, .int .i64 i] w fun e w' => e = .returned (stv (bStamp b i).1 (bStamp b i).2) ∧ Below w.heap.size w w' := by
  have hln := h.len
  have hcap := h.ops.cap
  have hmax := h.ops.max
  have HST := hid (show bStamp b i = if 0 ≤ i ∧ i < (n : Int) ∧ bright b = true then (b.time + i, b.rep) else (0, 0) by unfold bStamp; rw [hln])
  have HBI := hid (show bright b = true → 0 < b.time ∧ b.time ≤ 1099511627776 ∧ n ≤ 64 from fun hb => by
    have q := bright_i hb
    have := q.t0; have := q.t1; have := q.n0; have := q.n1
    omega)
  have HB := Below.refl w.heap.size w
  have HBR := hid (BRight_any b A n c l)
  obtain ⟨x, hx⟩ : ∃ x, b.rep = x := ⟨_, rfl⟩
  obtain ⟨y, hy⟩ : ∃ x, b.seq = x := ⟨_, rfl⟩
  obtain ⟨z, hz⟩ : ∃ x, b.time = x := ⟨_, rfl⟩
  rw [hx, hy, hz] at HBR
  rw [hz] at HBI
  rw [hx, hz] at HST
  rw [hx, hy, hz]
  clear hx hy hz hln
  refine frCall (args := [btv x y z A n c, .int .i64 i]) (N := 27) Tryd.func46 rfl rfl rfl (fun a0 F0 => ?_)
  refine wp_seq ?_
  refine kGo ?_
  refine kVal (v := ?v1) (w' := w.alloc (bto x y z A n c)) F0 rfl rfl rfl rfl ?y1 (fun a1 F1 => ?h1)
  case y1 =>
    have e0 := F0.ev 0 rfl; have g0 := F0.get 0 _ rfl
    go_simp
    all_goals (first | with_reducible rfl | (constructor <;> first | with_reducible rfl | rfl) | skip)
  clear F0 a0
  have hb := below_alloc1 w (bto x y z A n c)
  have OX := BAt.new w x y z A n c _ rfl
  replace hg := hg.below hb
  replace h := h.below hb
  replace HB := below_then HB hb
  clear hb
  generalize w.alloc (bto x y z A n c) = w1 at *
  refine kVal (v := ?v2) (w' := w1.alloc (so 0 0)) F1 rfl rfl rfl rfl ?y2 (fun a2 F2 => ?h2)
  case y2 =>
    skip
    go_simp
    all_goals (first | with_reducible rfl | (constructor <;> first | with_reducible rfl | rfl) | skip)
  clear F1 a1
  have hb := below_alloc1 w1 (so 0 0)
  have SR := SAt.new w1 0 0 _ rfl
  have hRR := HB.size
  replace hg := hg.below hb
  replace h := h.below hb
  replace OX := OX.below hb
  replace HB := below_then HB hb
  clear hb
  generalize w1.heap.size = R at *
  generalize w1.alloc (so 0 0) = w2 at *
  have F3 := F2.sub (l' := [(1, .int .i64 i), (2, .pointer (some ⟨w.heap.size, 0, none⟩)), (4, .pointer (some ⟨R, 0, none⟩))]) ⟨rfl, rfl, rfl, trivial⟩
  clear F2
  refine kFin rfl ?_
  refine frNext ?_
  refine wp_seq ?_
  refine wp_seq ?_
  refine kGo ?_
  refine kMove F3 rfl rfl rfl rfl rfl (fun a4 F4 => ?_)
  clear F3 a2
  by_cases h0 : i < 0
  · skip
    have hst : bStamp b i = (0, 0) := by rw [HST.out, if_neg (by omega)]
    refine kTake (v := .bool true) F4 rfl rfl rfl rfl ?y5 (fun a5 F5 => ?h5)
    case y5 =>
      have e5 := F4.ev 5 rfl; have g5 := F4.get 5 _ rfl
      first | (go_simp; done) | (go_simp; omega)
    clear F4 a4
    refine kMove F5 rfl rfl rfl rfl rfl (fun a6 F6 => ?_)
    clear F5 a5
    refine kNot F6 rfl rfl rfl rfl (fun a7 F7 => ?_)
    clear F6 a6
    refine kNot F7 rfl rfl rfl rfl (fun a8 F8 => ?_)
    clear F7 a7
    refine kNot F8 rfl rfl rfl rfl (fun a9 F9 => ?_)
    clear F8 a8
    refine kNot F9 rfl rfl rfl rfl (fun a10 F10 => ?_)
    clear F9 a9
    refine kNot F10 rfl rfl rfl rfl (fun a11 F11 => ?_)
    clear F10 a10
    refine kMove F11 rfl rfl rfl rfl rfl (fun a12 F12 => ?_)
    clear F11 a11
    refine kMove F12 rfl rfl rfl rfl rfl (fun a13 F13 => ?_)
    clear F12 a12
    refine kNot F13 rfl rfl rfl rfl (fun a14 F14 => ?_)
    clear F13 a13
    refine kNot F14 rfl rfl rfl rfl (fun a15 F15 => ?_)
    clear F14 a14
    refine kNot F15 rfl rfl rfl rfl (fun a16 F16 => ?_)
    clear F15 a15
    refine kMove F16 rfl rfl rfl rfl rfl (fun a17 F17 => ?_)
    clear F16 a16
    refine kFin rfl ?_
    refine frNext ?_
    refine frCond (b := true) F17 rfl ?_
    simp only [if_true]
    refine wp_seq ?_
    have F18 := F17.sub (l' := [(1, .int .i64 i), (2, .pointer (some ⟨w.heap.size, 0, none⟩)), (4, .pointer (some ⟨R, 0, none⟩))]) ⟨rfl, rfl, rfl, trivial⟩
    clear F17
    refine kGo ?_
    refine kTake (v := stv 0 0) F18 rfl rfl rfl rfl ?y19 (fun a19 F19 => ?h19)
    case y19 =>
      skip
      go_simp; try with_reducible rfl
    clear F18 a17
    refine kStore (w' := (w2.setCell ⟨R, 0, none⟩ (.int .i64 0)).setCell ⟨R, 1, none⟩ (.int .i64 0)) F19 rfl rfl rfl ?y20 (fun a20 F20 => ?h20)
    case y20 =>
      have c0 := SR.c0; have c1 := SR.c1; have f0 := SR.fz 0; have f1 := SR.fz 1; have e4 := F19.ev 4 rfl; have g4 := F19.get 4 _ rfl; have e19 := F19.ev 19 rfl; have g19 := F19.get 19 _ rfl
      go_simp; try with_reducible rfl
    clear F19 a19
    refine kFin rfl ?_
    obtain ⟨SO, HB9⟩ := stOut HB hRR SR 0 0
    refine frNext ?_
    refine wp_ret ?_
    refine frThenRet ?_
    refine frRetC rfl F20 rfl (v := stv 0 0) ?yl ?_
    case yl =>
      have c0 := SO.c0; have c1 := SO.c1
      go_simp; try with_reducible rfl
    exact ⟨by rw [hst], HB9⟩
  refine kTake (v := .bool false) F4 rfl rfl rfl rfl ?y21 (fun a21 F21 => ?h21)
  case y21 =>
    have e5 := F4.ev 5 rfl; have g5 := F4.get 5 _ rfl
    first | (go_simp; done) | (go_simp; omega)
  clear F4 a4
  refine kMove F21 rfl rfl rfl rfl rfl (fun a22 F22 => ?_)
  clear F21 a21
  refine kMove F22 rfl rfl rfl rfl rfl (fun a23 F23 => ?_)
  clear F22 a22
  refine kTake (v := ?v24) F23 rfl rfl rfl rfl ?y24 (fun a24 F24 => ?h24)
  case y24 =>
    have e2 := F23.ev 2 rfl; have g2 := F23.get 2 _ rfl
    go_simp; try with_reducible rfl
  clear F23 a23
  refine kTake (v := ?v25) F24 rfl rfl rfl rfl ?y25 (fun a25 F25 => ?h25)
  case y25 =>
    have q := OX.cs; have y0 := q.c0; have y1 := q.c1; have y2 := q.c2; have y3 := q.c3; clear q; have e9 := F24.ev 9 rfl; have g9 := F24.get 9 _ rfl
    go_simp; try with_reducible rfl
  clear F24 a24
  refine kTake (v := ?v26) F25 rfl rfl rfl rfl ?y26 (fun a26 F26 => ?h26)
  case y26 =>
    have e10 := F25.ev 10 rfl; have g10 := F25.get 10 _ rfl
    go_simp; try with_reducible rfl
  clear F25 a25
  by_cases h1 : (n : Int) ≤ i
  · skip
    have hst : bStamp b i = (0, 0) := by rw [HST.out, if_neg (by omega)]
    refine kTake (v := .bool true) F26 rfl rfl rfl rfl ?y27 (fun a27 F27 => ?h27)
    case y27 =>
      have e8 := F26.ev 8 rfl; have g8 := F26.get 8 _ rfl; have e11 := F26.ev 11 rfl; have g11 := F26.get 11 _ rfl
      first | (go_simp; done) | (go_simp; omega)
    clear F26 a26
    refine kMove F27 rfl rfl rfl rfl rfl (fun a28 F28 => ?_)
    clear F27 a27
    refine kMove F28 rfl rfl rfl rfl rfl (fun a29 F29 => ?_)
    clear F28 a28
    refine kNot F29 rfl rfl rfl rfl (fun a30 F30 => ?_)
    clear F29 a29
    refine kNot F30 rfl rfl rfl rfl (fun a31 F31 => ?_)
    clear F30 a30
    refine kNot F31 rfl rfl rfl rfl (fun a32 F32 => ?_)
    clear F31 a31
    refine kMove F32 rfl rfl rfl rfl rfl (fun a33 F33 => ?_)
    clear F32 a32
    refine kFin rfl ?_
    refine frNext ?_
    refine frCond (b := true) F33 rfl ?_
    simp only [if_true]
    refine wp_seq ?_
    have F34 := F33.sub (l' := [(1, .int .i64 i), (2, .pointer (some ⟨w.heap.size, 0, none⟩)), (4, .pointer (some ⟨R, 0, none⟩))]) ⟨rfl, rfl, rfl, trivial⟩
    clear F33
    refine kGo ?_
    refine kTake (v := stv 0 0) F34 rfl rfl rfl rfl ?y35 (fun a35 F35 => ?h35)
    case y35 =>
      skip
      go_simp; try with_reducible rfl
    clear F34 a33
    refine kStore (w' := (w2.setCell ⟨R, 0, none⟩ (.int .i64 0)).setCell ⟨R, 1, none⟩ (.int .i64 0)) F35 rfl rfl rfl ?y36 (fun a36 F36 => ?h36)
    case y36 =>
      have c0 := SR.c0; have c1 := SR.c1; have f0 := SR.fz 0; have f1 := SR.fz 1; have e4 := F35.ev 4 rfl; have g4 := F35.get 4 _ rfl; have e19 := F35.ev 19 rfl; have g19 := F35.get 19 _ rfl
      go_simp; try with_reducible rfl
    clear F35 a35
    refine kFin rfl ?_
    obtain ⟨SO, HB9⟩ := stOut HB hRR SR 0 0
    refine frNext ?_
    refine wp_ret ?_
    refine frThenRet ?_
    refine frRetC rfl F36 rfl (v := stv 0 0) ?yl ?_
    case yl =>
      have c0 := SO.c0; have c1 := SO.c1
      go_simp; try with_reducible rfl
    exact ⟨by rw [hst], HB9⟩
  refine kTake (v := .bool false) F26 rfl rfl rfl rfl ?y37 (fun a37 F37 => ?h37)
  case y37 =>
    have e8 := F26.ev 8 rfl; have g8 := F26.get 8 _ rfl; have e11 := F26.ev 11 rfl; have g11 := F26.get 11 _ rfl
    first | (go_simp; done) | (go_simp; omega)
  clear F26 a26
  refine kMove F37 rfl rfl rfl rfl rfl (fun a38 F38 => ?_)
  clear F37 a37
  refine kMove F38 rfl rfl rfl rfl rfl (fun a39 F39 => ?_)
  clear F38 a38
  refine kTake (v := btv x y z A n c) F39 rfl rfl rfl rfl ?y40 (fun a40 F40 => ?h40)
  case y40 =>
    have q := OX.cs; have y0 := q.c0; have y1 := q.c1; have y2 := q.c2; have y3 := q.c3; clear q; have e2 := F39.ev 2 rfl; have g2 := F39.get 2 _ rfl
    go_simp; try with_reducible rfl
  clear F39 a39
  rcases hbr : bright b with _ | _
  · skip
    have hst : bStamp b i = (0, 0) := by rw [HST.out, if_neg (by rw [hbr]; simp)]
    refine kCall F40 rfl rfl rfl rfl (HBR.out _ h hg) ?y41 ?h41
    case y41 =>
      have e15 := F40.ev 15 rfl; have g15 := F40.get 15 _ rfl
      go_simp; try with_reducible rfl
    rw [hbr]
    rintro e w3 ⟨rfl, hb⟩
    replace hg := hg.below hb
    replace h := h.below hb
    replace OX := OX.below hb
    replace SR := SR.below hb
    replace HB := below_then HB hb
    clear hb
    refine ⟨_, rfl, fun a41 F41 => ?_⟩
    clear F40 a40
    refine kMove F41 rfl rfl rfl rfl rfl (fun a42 F42 => ?_)
    clear F41 a41
    refine kMove F42 rfl rfl rfl rfl rfl (fun a43 F43 => ?_)
    clear F42 a42
    refine kFin rfl ?_
    refine frNext ?_
    refine frCond (b := true) F43 rfl ?_
    simp only [if_true]
    refine wp_seq ?_
    have F44 := F43.sub (l' := [(1, .int .i64 i), (2, .pointer (some ⟨w.heap.size, 0, none⟩)), (4, .pointer (some ⟨R, 0, none⟩))]) ⟨rfl, rfl, rfl, trivial⟩
    clear F43
    refine kGo ?_
    refine kTake (v := stv 0 0) F44 rfl rfl rfl rfl ?y45 (fun a45 F45 => ?h45)
    case y45 =>
      skip
      go_simp; try with_reducible rfl
    clear F44 a43
    refine kStore (w' := (w3.setCell ⟨R, 0, none⟩ (.int .i64 0)).setCell ⟨R, 1, none⟩ (.int .i64 0)) F45 rfl rfl rfl ?y46 (fun a46 F46 => ?h46)
    case y46 =>
      have c0 := SR.c0; have c1 := SR.c1; have f0 := SR.fz 0; have f1 := SR.fz 1; have e4 := F45.ev 4 rfl; have g4 := F45.get 4 _ rfl; have e19 := F45.ev 19 rfl; have g19 := F45.get 19 _ rfl
      go_simp; try with_reducible rfl
    clear F45 a45
    refine kFin rfl ?_
    obtain ⟨SO, HB9⟩ := stOut HB hRR SR 0 0
    refine frNext ?_
    refine wp_ret ?_
    refine frThenRet ?_
    refine frRetC rfl F46 rfl (v := stv 0 0) ?yl ?_
    case yl =>
      have c0 := SO.c0; have c1 := SO.c1
      go_simp; try with_reducible rfl
    exact ⟨by rw [hst], HB9⟩
  have hst : bStamp b i = (z + i, x) := by rw [HST.out, if_pos ⟨by omega, by omega, hbr⟩]
  obtain ⟨hz0, hz1, hn6⟩ := HBI.out hbr
  have HZ := hid hst
  clear hst
  refine kCall F40 rfl rfl rfl rfl (HBR.out _ h hg) ?y47 ?h47
  case y47 =>
    have e15 := F40.ev 15 rfl; have g15 := F40.get 15 _ rfl
    go_simp; try with_reducible rfl
  rw [hbr]
  rintro e w3 ⟨rfl, hb⟩
  replace hg := hg.below hb
  replace h := h.below hb
  replace OX := OX.below hb
  replace SR := SR.below hb
  replace HB := below_then HB hb
  clear hb
  refine ⟨_, rfl, fun a47 F47 => ?_⟩
  clear F40 a40
  refine kMove F47 rfl rfl rfl rfl rfl (fun a48 F48 => ?_)
  clear F47 a47
  refine kMove F48 rfl rfl rfl rfl rfl (fun a49 F49 => ?_)
  clear F48 a48
  refine kFin rfl ?_
  refine frNext ?_
  refine frCond (b := false) F49 rfl ?_
  simp only [Bool.false_eq_true, if_false]
  refine wp_skip ?_
  refine frNext ?_
  refine wp_seq ?_
  have F50 := F49.sub (l' := [(1, .int .i64 i), (2, .pointer (some ⟨w.heap.size, 0, none⟩)), (4, .pointer (some ⟨R, 0, none⟩))]) ⟨rfl, rfl, rfl, trivial⟩
  clear F49
  refine kGo ?_
  refine kTake (v := ?v51) F50 rfl rfl rfl rfl ?y51 (fun a51 F51 => ?h51)
  case y51 =>
    have e2 := F50.ev 2 rfl; have g2 := F50.get 2 _ rfl
    go_simp; try with_reducible rfl
  clear F50 a49
  refine kTake (v := ?v52) F51 rfl rfl rfl rfl ?y52 (fun a52 F52 => ?h52)
  case y52 =>
    have q := OX.cs; have y0 := q.c0; have y1 := q.c1; have y2 := q.c2; have y3 := q.c3; clear q; have e20 := F51.ev 20 rfl; have g20 := F51.get 20 _ rfl
    go_simp; try with_reducible rfl
  clear F51 a51
  refine kMove F52 rfl rfl rfl rfl rfl (fun a53 F53 => ?_)
  clear F52 a52
  refine kTake (v := .int .i64 (z + i)) F53 rfl rfl rfl rfl ?y54 (fun a54 F54 => ?h54)
  case y54 =>
    have e21 := F53.ev 21 rfl; have g21 := F53.get 21 _ rfl; have e22 := F53.ev 22 rfl; have g22 := F53.get 22 _ rfl
    first | (go_simp; done) | (go_simp; simp only [IntKind.wrap_i64]; omega)
  clear F53 a53
  refine kTake (v := ?v55) F54 rfl rfl rfl rfl ?y55 (fun a55 F55 => ?h55)
  case y55 =>
    have e2 := F54.ev 2 rfl; have g2 := F54.get 2 _ rfl
    go_simp; try with_reducible rfl
  clear F54 a54
  refine kTake (v := ?v56) F55 rfl rfl rfl rfl ?y56 (fun a56 F56 => ?h56)
  case y56 =>
    have q := OX.cs; have y0 := q.c0; have y1 := q.c1; have y2 := q.c2; have y3 := q.c3; clear q; have e24 := F55.ev 24 rfl; have g24 := F55.get 24 _ rfl
    go_simp; try with_reducible rfl
  clear F55 a55
  refine kTake (v := stv (z + i) x) F56 rfl rfl rfl rfl ?y57 (fun a57 F57 => ?h57)
  case y57 =>
    have e23 := F56.ev 23 rfl; have g23 := F56.get 23 _ rfl; have e25 := F56.ev 25 rfl; have g25 := F56.get 25 _ rfl
    go_simp; try with_reducible rfl
  clear F56 a56
  refine kStore (w' := (w3.setCell ⟨R, 0, none⟩ (.int .i64 (z + i))).setCell ⟨R, 1, none⟩ (.int .i64 x)) F57 rfl rfl rfl ?y58 (fun a58 F58 => ?h58)
  case y58 =>
    have c0 := SR.c0; have c1 := SR.c1; have f0 := SR.fz 0; have f1 := SR.fz 1; have e4 := F57.ev 4 rfl; have g4 := F57.get 4 _ rfl; have e26 := F57.ev 26 rfl; have g26 := F57.get 26 _ rfl
    go_simp; try with_reducible rfl
  clear F57 a57
  refine kFin rfl ?_
  obtain ⟨SO, HB9⟩ := stOut HB hRR SR (z + i) x
  refine frNext ?_
  refine wp_ret ?_
  refine frRetC rfl F58 rfl (v := stv (z + i) x) ?yl ?_
  case yl =>
    have c0 := SO.c0; have c1 := SO.c1
    go_simp; try with_reducible rfl
  exact ⟨by rw [HZ.out], HB9⟩
set_option maxRecDepth 100000 in
set_option maxHeartbeats 4000000 in
theorem BEnd_any (b : BtD) (A : Option Addr) (n c : Nat) (l : List OpV) (w : World) (h : BtIs w b A n c l) (hg : RootsAt w) :
    Calls Tryd.prog 45 #[btv b.rep b.seq b.time A n c] w fun e w' => e = .returned (stv (bStamp b ((n : Int) - 1)).1 (bStamp b ((n : Int) - 1)).2) ∧ Below w.heap.size w w' := by
  have hcap := h.ops.cap
  have hmax := h.ops.max
  have HB := Below.refl w.heap.size w
  have HBS := hid (BStamp_any b ((n : Int) - 1) A n c l)
  obtain ⟨x, hx⟩ : ∃ x, b.rep = x := ⟨_, rfl⟩
  obtain ⟨y, hy⟩ : ∃ x, b.seq = x := ⟨_, rfl⟩
  obtain ⟨z, hz⟩ : ∃ x, b.time = x := ⟨_, rfl⟩
  rw [hx, hy, hz] at HBS
  rw [hx, hy, hz]
  clear hx hy hz
  generalize (bStamp b ((n : Int) - 1)).1 = s1 at *
  generalize (bStamp b ((n : Int) - 1)).2 = s2 at *
  refine frCall (args := [btv x y z A n c]) (N := 9) Tryd.func45 rfl rfl rfl (fun a0 F0 => ?_)
  refine wp_seq ?_
  refine kGo ?_
  refine kVal (v := ?v1) (w' := w.alloc (bto x y z A n c)) F0 rfl rfl rfl rfl ?y1 (fun a1 F1 => ?h1)
  case y1 =>
    have e0 := F0.ev 0 rfl; have g0 := F0.get 0 _ rfl
    go_simp
    all_goals (first | with_reducible rfl | (constructor <;> first | with_reducible rfl | rfl) | skip)
  clear F0 a0
  have hb := below_alloc1 w (bto x y z A n c)
  have OX := BAt.new w x y z A n c _ rfl
  replace hg := hg.below hb
  replace h := h.below hb
  replace HB := below_then HB hb
  clear hb
  generalize w.alloc (bto x y z A n c) = w1 at *
  refine kVal (v := ?v2) (w' := w1.alloc (so 0 0)) F1 rfl rfl rfl rfl ?y2 (fun a2 F2 => ?h2)
  case y2 =>
    skip
    go_simp
    all_goals (first | with_reducible rfl | (constructor <;> first | with_reducible rfl | rfl) | skip)
  clear F1 a1
  have hb := below_alloc1 w1 (so 0 0)
  have SR := SAt.new w1 0 0 _ rfl
  have hRR := HB.size
  replace hg := hg.below hb
  replace h := h.below hb
  replace OX := OX.below hb
  replace HB := below_then HB hb
  clear hb
  generalize w1.heap.size = R at *
  generalize w1.alloc (so 0 0) = w2 at *
  have F3 := F2.sub (l' := [(1, .pointer (some ⟨w.heap.size, 0, none⟩)), (2, .pointer (some ⟨R, 0, none⟩))]) ⟨rfl, rfl, trivial⟩
  clear F2
  refine kFin rfl ?_
  refine frNext ?_
  refine wp_seq ?_
  refine kGo ?_
  refine kTake (v := btv x y z A n c) F3 rfl rfl rfl rfl ?y4 (fun a4 F4 => ?h4)
  case y4 =>
    have q := OX.cs; have y0 := q.c0; have y1 := q.c1; have y2 := q.c2; have y3 := q.c3; clear q; have e1 := F3.ev 1 rfl; have g1 := F3.get 1 _ rfl
    go_simp; try with_reducible rfl
  clear F3 a2
  refine kTake (v := ?v5) F4 rfl rfl rfl rfl ?y5 (fun a5 F5 => ?h5)
  case y5 =>
    have e1 := F4.ev 1 rfl; have g1 := F4.get 1 _ rfl
    go_simp; try with_reducible rfl
  clear F4 a4
  refine kTake (v := ?v6) F5 rfl rfl rfl rfl ?y6 (fun a6 F6 => ?h6)
  case y6 =>
    have q := OX.cs; have y0 := q.c0; have y1 := q.c1; have y2 := q.c2; have y3 := q.c3; clear q; have e4 := F5.ev 4 rfl; have g4 := F5.get 4 _ rfl
    go_simp; try with_reducible rfl
  clear F5 a5
  refine kTake (v := ?v7) F6 rfl rfl rfl rfl ?y7 (fun a7 F7 => ?h7)
  case y7 =>
    have e5 := F6.ev 5 rfl; have g5 := F6.get 5 _ rfl
    go_simp; try with_reducible rfl
  clear F6 a6
  refine kTake (v := .int .i64 ((n : Int) - 1)) F7 rfl rfl rfl rfl ?y8 (fun a8 F8 => ?h8)
  case y8 =>
    have e6 := F7.ev 6 rfl; have g6 := F7.get 6 _ rfl
    first | (go_simp; done) | (go_simp; simp only [IntKind.wrap_i64]; omega)
  clear F7 a7
  refine kCall F8 rfl rfl rfl rfl (HBS.out _ h hg) ?y9 ?h9
  case y9 =>
    have e3 := F8.ev 3 rfl; have g3 := F8.get 3 _ rfl; have e7 := F8.ev 7 rfl; have g7 := F8.get 7 _ rfl
    go_simp; try with_reducible rfl
  rintro e w3 ⟨rfl, hb⟩
  replace hg := hg.below hb
  replace h := h.below hb
  replace OX := OX.below hb
  replace SR := SR.below hb
  replace HB := below_then HB hb
  clear hb
  refine ⟨_, rfl, fun a9 F9 => ?_⟩
  clear F8 a8
  refine kStore (w' := (w3.setCell ⟨R, 0, none⟩ (.int .i64 s1)).setCell ⟨R, 1, none⟩ (.int .i64 s2)) F9 rfl rfl rfl ?y10 (fun a10 F10 => ?h10)
  case y10 =>
    have c0 := SR.c0; have c1 := SR.c1; have f0 := SR.fz 0; have f1 := SR.fz 1; have e2 := F9.ev 2 rfl; have g2 := F9.get 2 _ rfl; have e8 := F9.ev 8 rfl; have g8 := F9.get 8 _ rfl
    go_simp; try with_reducible rfl
  clear F9 a9
  refine kFin rfl ?_
  obtain ⟨SO, HB9⟩ := stOut HB hRR SR s1 s2
  refine frNext ?_
  refine wp_ret ?_
  refine frRetC rfl F10 rfl (v := stv s1 s2) ?yl ?_
  case yl =>
    have c0 := SO.c0; have c1 := SO.c1
    go_simp; try with_reducible rfl
  exact ⟨rfl, HB9⟩
end Go.Proofs.YtnakanophilfhaaDoor
/- BtD: Layer 8: a batch's bytes, and its frame. -/
namespace Go.Proofs.YtnakanophilfhaaDoor
open Go.RowKit Go.Dio
set_option linter.unusedVariables false
set_option linter.unusedSimpArgs false

def numsB (zs : List Int) : List UInt8 := zs.flatMap fun z => numB z.toNat
theorem numsB_snoc (zs : List Int) (i : Nat) (z : Int) (h : zs[i]? = some z) : numsB (zs.take (i + 1)) = numsB (zs.take i) ++ numB z.toNat := by
  obtain ⟨hi, rfl⟩ := List.getElem?_eq_some_iff.1 h
  unfold numsB
  rw [List.take_succ_eq_append_getElem hi, List.flatMap_append, List.flatMap_singleton]
theorem numsB_le : ∀ (zs : List Int), (∀ z ∈ zs, 0 ≤ z ∧ z < 281474976710656) → (numsB zs).length ≤ 8 * zs.length
  | [], _ => by simp [numsB]
  | z :: zs, h => by
    have h1 := h z (List.mem_cons_self ..)
    have l1 := numB_le z.toNat (by omega)
    have l2 := numsB_le zs (fun x hx => h x (List.mem_cons_of_mem _ hx))
    have e : numsB (z :: zs) = numB z.toNat ++ numsB zs := by simp [numsB]
    rw [e, List.length_append, List.length_cons]
    omega
theorem opsB_snoc (l : List OpV) (i : Nat) (p : OpV) (h : l[i]? = some p) : opsB ((l.take (i + 1)).map OpV.d) = opsB ((l.take i).map OpV.d) ++ opB p.d := by
  obtain ⟨hi, rfl⟩ := List.getElem?_eq_some_iff.1 h
  unfold opsB
  rw [List.take_succ_eq_append_getElem hi, List.map_append, List.flatMap_append, List.map_singleton, List.flatMap_singleton]
set_option maxRecDepth 100000 in
set_option maxHeartbeats 4000000 in
theorem BPut_any (b : BtD) (A : Option Addr) (n c : Nat) (l : List OpV) (w : World) (h : BtIs w b A n c l) (hg : RootsAt w) :
    Calls Tryd.prog 38 #[btv b.rep b.seq b.time A n c] w fun e w' => (bright b = true → OutB2 5 w (btB b) 0 e w') ∧ (bright b = false → e = .returned (.tuple #[.slice none 0 0, .int .i64 1]) ∧ Below w.heap.size w w') := by
  have hln := h.len
  have hlo := h.ops.len
  have hcap := h.ops.cap
  have hmax := h.ops.max
  have HBI := hid (show bright b = true → BrightI b from bright_i)
  have HBR := hid (BRight_any b A n c l)
  have HEQ := hid (show btB b = numsB [b.rep, b.seq, b.time, (n : Int)] ++ opsB (l.map OpV.d) by rw [← h.eq, ← hln]; simp [btB, numsB, List.append_assoc])
  have HOK := hid (show bright b = true → opsOk (l.map OpV.d) = true from fun hb => by rw [← h.eq]; exact (bright_i hb).ops)
  have HRG := hid (show bright b = true → (∀ z ∈ [b.rep, b.seq, b.time, (n : Int)], 0 ≤ z ∧ z < 281474976710656) ∧ n ≤ 64 from fun hb => by
    have q := bright_i hb
    have := q.rep0; have := q.rep1; have := q.seq0; have := q.seq1; have := q.t0; have := q.t1; have := q.n0; have := q.n1
    refine ⟨fun z hz => ?_, by omega⟩
    simp only [List.mem_cons, List.not_mem_nil, or_false] at hz
    rcases hz with rfl | rfl | rfl | rfl <;> omega)
  have HB := Below.refl w.heap.size w
  obtain ⟨x, hx⟩ : ∃ x, b.rep = x := ⟨_, rfl⟩
  obtain ⟨y, hy⟩ : ∃ x, b.seq = x := ⟨_, rfl⟩
  obtain ⟨z, hz⟩ : ∃ x, b.time = x := ⟨_, rfl⟩
  rw [hx, hy, hz] at HBR HEQ HRG
  rw [hx, hy, hz]
  clear hx hy hz hln
  refine frCall (args := [btv x y z A n c]) (N := 57) Tryd.func38 rfl rfl rfl (fun a0 F0 => ?_)
  refine wp_seq ?_
  refine kGo ?_
  refine kVal (v := ?v1) (w' := w.alloc (bto x y z A n c)) F0 rfl rfl rfl rfl ?y1 (fun a1 F1 => ?h1)
  case y1 =>
    have e0 := F0.ev 0 rfl; have g0 := F0.get 0 _ rfl
    go_simp
    all_goals (first | with_reducible rfl | (constructor <;> first | with_reducible rfl | rfl) | skip)
  clear F0 a0
  refine kMove F1 rfl rfl rfl rfl rfl (fun a2 F2 => ?_)
  clear F1 a1
  refine kMove F2 rfl rfl rfl rfl rfl (fun a3 F3 => ?_)
  clear F2 a2
  have F4 := F3.sub (l' := [(1, .pointer (some ⟨w.heap.size, 0, none⟩))]) ⟨rfl, trivial⟩
  clear F3
  have hb := below_alloc1 w (bto x y z A n c)
  have OX := BAt.new w x y z A n c _ rfl
  replace hg := hg.below hb
  replace h := h.below hb
  replace HB := below_then HB hb
  clear hb
  generalize w.alloc (bto x y z A n c) = w1 at *
  refine kFin rfl ?_
  refine frNext ?_
  refine wp_seq ?_
  refine wp_seq ?_
  refine kGo ?_
  refine kTake (v := btv x y z A n c) F4 rfl rfl rfl rfl ?y5 (fun a5 F5 => ?h5)
  case y5 =>
    have q := OX.cs; have y0 := q.c0; have y1 := q.c1; have y2 := q.c2; have y3 := q.c3; clear q; have e1 := F4.ev 1 rfl; have g1 := F4.get 1 _ rfl
    go_simp; try with_reducible rfl
  clear F4 a3
  rcases hbr : bright b with _ | _
  · skip
    refine kCall F5 rfl rfl rfl rfl (HBR.out _ h hg) ?y6 ?h6
    case y6 =>
      have e13 := F5.ev 13 rfl; have g13 := F5.get 13 _ rfl
      go_simp; try with_reducible rfl
    rw [hbr]
    rintro e w2 ⟨rfl, hb⟩
    replace hg := hg.below hb
    replace h := h.below hb
    replace OX := OX.below hb
    replace HB := below_then HB hb
    clear hb
    refine ⟨_, rfl, fun a6 F6 => ?_⟩
    clear F5 a5
    refine kMove F6 rfl rfl rfl rfl rfl (fun a7 F7 => ?_)
    clear F6 a6
    refine kFin rfl ?_
    refine frNext ?_
    refine frCond (b := true) F7 rfl ?_
    simp only [if_true]
    refine wp_seq ?_
    refine kGo ?_
    refine kMove F7 rfl rfl rfl rfl rfl (fun a8 F8 => ?_)
    clear F7 a7
    refine kMove F8 rfl rfl rfl rfl rfl (fun a9 F9 => ?_)
    clear F8 a8
    refine kFin rfl ?_
    refine frNext ?_
    refine wp_ret ?_
    refine frThenRet ?_
    exact frRet2 rfl F9 rfl rfl ⟨fun h => (by simp at h), fun _ => ⟨rfl, HB⟩⟩
  refine kCall F5 rfl rfl rfl rfl (HBR.out _ h hg) ?y10 ?h10
  case y10 =>
    have e13 := F5.ev 13 rfl; have g13 := F5.get 13 _ rfl
    go_simp; try with_reducible rfl
  rw [hbr]
  rintro e w2 ⟨rfl, hb⟩
  replace hg := hg.below hb
  replace h := h.below hb
  replace OX := OX.below hb
  replace HB := below_then HB hb
  clear hb
  refine ⟨_, rfl, fun a10 F10 => ?_⟩
  clear F5 a5
  refine kMove F10 rfl rfl rfl rfl rfl (fun a11 F11 => ?_)
  clear F10 a10
  refine kFin rfl ?_
  refine frNext ?_
  refine frCond (b := false) F11 rfl ?_
  simp only [Bool.false_eq_true, if_false]
  refine wp_skip ?_
  refine frNext ?_
  refine wp_seq ?_
  have hok := HOK.out hbr
  obtain ⟨hrg, hn64⟩ := HRG.out hbr
  have HOK2 := hid hok
  have HR2 := hid hrg
  clear hok hrg HOK HRG HBI
  have F12 := F11.sub (l' := [(1, .pointer (some ⟨w.heap.size, 0, none⟩))]) ⟨rfl, trivial⟩
  clear F11
  refine kGo ?_
  refine kMove F12 rfl rfl rfl rfl rfl (fun a13 F13 => ?_)
  clear F12 a11
  have F14 := F13.sub (l' := [(1, .pointer (some ⟨w.heap.size, 0, none⟩)), (4, .slice none 0 0)]) ⟨rfl, rfl, trivial⟩
  clear F13
  refine kFin rfl ?_
  refine frNext ?_
  refine wp_seq ?_
  refine wp_seq ?_
  refine kGo ?_
  refine kTake (v := ?v15) F14 rfl rfl rfl rfl ?y15 (fun a15 F15 => ?h15)
  case y15 =>
    have e1 := F14.ev 1 rfl; have g1 := F14.get 1 _ rfl
    go_simp; try with_reducible rfl
  clear F14 a13
  refine kTake (v := ?v16) F15 rfl rfl rfl rfl ?y16 (fun a16 F16 => ?h16)
  case y16 =>
    have q := OX.cs; have y0 := q.c0; have y1 := q.c1; have y2 := q.c2; have y3 := q.c3; clear q; have e16 := F15.ev 16 rfl; have g16 := F15.get 16 _ rfl
    go_simp; try with_reducible rfl
  clear F15 a15
  refine kTake (v := ?v17) F16 rfl rfl rfl rfl ?y17 (fun a17 F17 => ?h17)
  case y17 =>
    have e1 := F16.ev 1 rfl; have g1 := F16.get 1 _ rfl
    go_simp; try with_reducible rfl
  clear F16 a16
  refine kTake (v := ?v18) F17 rfl rfl rfl rfl ?y18 (fun a18 F18 => ?h18)
  case y18 =>
    have q := OX.cs; have y0 := q.c0; have y1 := q.c1; have y2 := q.c2; have y3 := q.c3; clear q; have e18 := F17.ev 18 rfl; have g18 := F17.get 18 _ rfl
    go_simp; try with_reducible rfl
  clear F17 a17
  refine kTake (v := ?v19) F18 rfl rfl rfl rfl ?y19 (fun a19 F19 => ?h19)
  case y19 =>
    have e1 := F18.ev 1 rfl; have g1 := F18.get 1 _ rfl
    go_simp; try with_reducible rfl
  clear F18 a18
  refine kTake (v := ?v20) F19 rfl rfl rfl rfl ?y20 (fun a20 F20 => ?h20)
  case y20 =>
    have q := OX.cs; have y0 := q.c0; have y1 := q.c1; have y2 := q.c2; have y3 := q.c3; clear q; have e20 := F19.ev 20 rfl; have g20 := F19.get 20 _ rfl
    go_simp; try with_reducible rfl
  clear F19 a19
  refine kTake (v := ?v21) F20 rfl rfl rfl rfl ?y21 (fun a21 F21 => ?h21)
  case y21 =>
    have e1 := F20.ev 1 rfl; have g1 := F20.get 1 _ rfl
    go_simp; try with_reducible rfl
  clear F20 a20
  refine kTake (v := ?v22) F21 rfl rfl rfl rfl ?y22 (fun a22 F22 => ?h22)
  case y22 =>
    have q := OX.cs; have y0 := q.c0; have y1 := q.c1; have y2 := q.c2; have y3 := q.c3; clear q; have e22 := F21.ev 22 rfl; have g22 := F21.get 22 _ rfl
    go_simp; try with_reducible rfl
  clear F21 a21
  refine kTake (v := ?v23) F22 rfl rfl rfl rfl ?y23 (fun a23 F23 => ?h23)
  case y23 =>
    have e23 := F22.ev 23 rfl; have g23 := F22.get 23 _ rfl
    go_simp; try with_reducible rfl
  clear F22 a22
  refine kVal (v := ?v24) (w' := w2.alloc (.cells #[.int .i64 x, .int .i64 y, .int .i64 z, .int .i64 (n : Int)] 3)) F23 rfl rfl rfl rfl ?y24 (fun a24 F24 => ?h24)
  case y24 =>
    have e17 := F23.ev 17 rfl; have g17 := F23.get 17 _ rfl; have e19 := F23.ev 19 rfl; have g19 := F23.get 19 _ rfl; have e21 := F23.ev 21 rfl; have g21 := F23.get 21 _ rfl; have e24 := F23.ev 24 rfl; have g24 := F23.get 24 _ rfl
    go_simp
    all_goals (first | with_reducible rfl | (constructor <;> first | with_reducible rfl | rfl) | skip)
  clear F23 a23
  refine kTake (v := ?v25) F24 rfl rfl rfl rfl ?y25 (fun a25 F25 => ?h25)
  case y25 =>
    have e25 := F24.ev 25 rfl; have g25 := F24.get 25 _ rfl
    go_simp; try with_reducible rfl
  clear F24 a24
  refine kMove F25 rfl rfl rfl rfl rfl (fun a26 F26 => ?_)
  clear F25 a25
  have F27 := F26.sub (l' := [(1, .pointer (some ⟨w.heap.size, 0, none⟩)), (4, .slice none 0 0), (25, .slice (some ⟨w2.heap.size, 0, none⟩) 4 4), (26, .int .i64 4), (27, .int .i64 0)]) ⟨rfl, rfl, rfl, rfl, rfl, trivial⟩
  clear F26
  have hb := below_alloc1 w2 (.cells #[.int .i64 x, .int .i64 y, .int .i64 z, .int .i64 (n : Int)] 3)
  have ZA : ∀ (i : Nat) (q : Int), [x, y, z, (n : Int)][i]? = some q → (w2.alloc (.cells #[.int .i64 x, .int .i64 y, .int .i64 z, .int .i64 (n : Int)] 3)).cell? ⟨w2.heap.size, i, none⟩ = some (.int .i64 q) := fun i q hq => by
    match i, hq with
    | 0, hq => simp at hq; subst hq; exact cell_of (new_at _ _) 0 rfl
    | 1, hq => simp at hq; subst hq; exact cell_of (new_at _ _) 1 rfl
    | 2, hq => simp at hq; subst hq; exact cell_of (new_at _ _) 2 rfl
    | 3, hq => simp at hq; subst hq; exact cell_of (new_at _ _) 3 rfl
    | i + 4, hq => simp at hq
  replace hg := hg.below hb
  replace h := h.below hb
  replace OX := OX.below hb
  replace HB := below_then HB hb
  clear hb
  generalize w2.heap.size = Z at *
  generalize w2.alloc (.cells #[.int .i64 x, .int .i64 y, .int .i64 z, .int .i64 (n : Int)] 3) = w3 at *
  have HO : OwnB 5 w3 w3.heap.size (.slice none 0 0) [] := OwnB.nil _ _ _
  have HS : Below w3.heap.size w3 w3 := Below.refl _ _
  have OX3 := hid OX
  have H3 := hid h
  have G3 := hid hg
  have HB3 := hid HB
  clear OX h hg HB
  refine kFin rfl ?_
  refine frNext ?_
  refine frBlock ?_
  refine wp_loop (fun aL wL => ∃ (i : Nat) (v : Value), i ≤ 4 ∧ Fr aL 57 [(1, .pointer (some ⟨w.heap.size, 0, none⟩)), (4, v), (25, .slice (some ⟨Z, 0, none⟩) 4 4), (26, .int .i64 4), (27, .int .i64 (i : Int))] ∧ OwnB 5 wL w3.heap.size v (numsB ([x, y, z, (n : Int)].take i)) ∧ Below w3.heap.size w3 wL) (fun aL _ => 4 - (intOf (aL.tmps.getD 27 undef)).toNat) ?st ?rd
  case st => exact ⟨0, _, by omega, F27, HO, HS⟩
  case rd =>
    clear HO HS F27 a26
    rintro aL wL ⟨i, vi, hi, FL, HO, HS⟩
    rw [show intOf (aL.tmps.getD 27 undef) = (i : Int) by rw [FL.ev 27 rfl]; rfl]
    refine wp_seq ?_
    by_cases hlt : i < 4
    · skip
      refine kGo ?_
      refine kTake (v := .bool true) FL rfl rfl rfl rfl ?y28 (fun a28 F28 => ?h28)
      case y28 =>
        have e26 := FL.ev 26 rfl; have g26 := FL.get 26 _ rfl; have e27 := FL.ev 27 rfl; have g27 := FL.get 27 _ rfl
        first | (go_simp; done) | (go_simp; omega)
      clear FL aL
      refine kFin rfl ?_
      refine frNext ?_
      refine wp_seq ?_
      refine frCond (b := true) F28 rfl ?_
      simp only [if_true]
      refine wp_skip ?_
      refine frNext ?_
      refine wp_seq ?_
      refine frBlock ?_
      refine wp_seq ?_
      obtain ⟨q, hq⟩ : ∃ q, [x, y, z, (n : Int)][i]? = some q := ⟨_, List.getElem?_eq_getElem (by simp; omega)⟩
      have hz := ZA i q hq
      have hz2 : wL.cell? ⟨Z, i, none⟩ = some (.int .i64 q) := by rw [HS.cell (World.block_lt_of_cell? _ _ hz)]; exact hz
      obtain ⟨hq0, hq1⟩ := HR2.out q (List.mem_of_getElem? hq)
      have HQ := hid hq
      have hli : (i : Int) < 4 := by omega
      clear hz hq
      refine kGo ?_
      refine kTake (v := ?v29) F28 rfl rfl rfl rfl ?y29 (fun a29 F29 => ?h29)
      case y29 =>
        have e25 := F28.ev 25 rfl; have g25 := F28.get 25 _ rfl; have e27 := F28.ev 27 rfl; have g27 := F28.get 27 _ rfl
        first | (go_simp; done) | (go_simp; omega) | (go_simp; try with_reducible rfl)
      clear F28 a28
      refine kTake (v := ?v30) F29 rfl rfl rfl rfl ?y30 (fun a30 F30 => ?h30)
      case y30 =>
        have e29 := F29.ev 29 rfl; have g29 := F29.get 29 _ rfl
        go_simp; try with_reducible rfl
      clear F29 a29
      refine kMove F30 rfl rfl rfl rfl rfl (fun a31 F31 => ?_)
      clear F30 a30
      refine kFin rfl ?_
      refine frNext ?_
      refine wp_seq ?_
      clear hz2
      refine kGo ?_
      refine kMove F31 rfl rfl rfl rfl rfl (fun a32 F32 => ?_)
      clear F31 a31
      refine kCall F32 rfl rfl rfl rfl (Num_ok q.toNat _ (by omega)) ?y33 ?h33
      case y33 =>
        have e32 := F32.ev 32 rfl; have g32 := F32.get 32 _ rfl
        first | (go_simp; done) | (go_simp; omega)
      rintro e wN ⟨u, rfl, ho, hb⟩
      obtain ⟨Au, nu, cu, rfl, hu, -⟩ := ho.form
      have hul := hu.len
      have HO2 : OwnB _ wN _ _ _ := owns_below HO hb
      replace HS := below_then HS hb
      clear HO ho hb
      have HO := HO2
      clear HO2
      refine ⟨_, rfl, fun a33 F33 => ?_⟩
      clear F32 a32
      refine kMove F33 rfl rfl rfl rfl rfl (fun a34 F34 => ?_)
      clear F33 a33
      refine kMove F34 rfl rfl rfl rfl rfl (fun a35 F35 => ?_)
      clear F34 a34
      refine kMove F35 rfl rfl rfl rfl rfl (fun a36 F36 => ?_)
      clear F35 a35
      refine kMove F36 rfl rfl rfl rfl rfl (fun a37 F37 => ?_)
      clear F36 a36
      refine kMove F37 rfl rfl rfl rfl rfl (fun a38 F38 => ?_)
      clear F37 a37
      refine kFin rfl ?_
      refine frNext ?_
      refine kGo ?_
      refine kMove F38 rfl rfl rfl rfl rfl (fun a39 F39 => ?_)
      clear F38 a38
      refine kMove F39 rfl rfl rfl rfl rfl (fun a40 F40 => ?_)
      clear F39 a39
      have hst := numB_le q.toNat (by omega)
      have hpl := numsB_le ([x, y, z, (n : Int)].take i) (fun z hz => HR2.out z (List.mem_of_mem_take hz))
      have hpt := List.length_take_le i [x, y, z, (n : Int)]
      refine kAppB (w0 := w3) w3.heap.size F40 rfl rfl rfl rfl (t := 31) (e := 5) rfl Tryd.underlying31 info_u8 rfl rfl HO hu HS HS.size ?c41 ?h41
      case c41 => first | omega | (simp only [List.length_append]; omega)
      clear HO HS hu
      intro v41 w41x HO HS hg a41 F41
      clear hg
      clear F40 a40
      refine kMove F41 rfl rfl rfl rfl rfl (fun a42 F42 => ?_)
      clear F41 a41
      have F43 := F42.sub (l' := [(1, .pointer (some ⟨w.heap.size, 0, none⟩)), (4, v41), (25, .slice (some ⟨Z, 0, none⟩) 4 4), (26, .int .i64 4), (27, .int .i64 (i : Int))]) ⟨rfl, rfl, rfl, rfl, rfl, trivial⟩
      clear F42
      refine kFin rfl ?_
      refine frBlkN ?_
      refine frNext ?_
      refine kGo ?_
      refine kTake (v := .int .i64 ((i + 1 : Nat) : Int)) F43 rfl rfl rfl rfl ?y44 (fun a44 F44 => ?h44)
      case y44 =>
        have e27 := F43.ev 27 rfl; have g27 := F43.get 27 _ rfl
        first | (go_simp; done) | (go_simp; simp only [IntKind.wrap_i64]; omega)
      clear F43 a42
      refine kMove F44 rfl rfl rfl rfl rfl (fun a45 F45 => ?_)
      clear F44 a44
      have F46 := F45.sub (l' := [(1, .pointer (some ⟨w.heap.size, 0, none⟩)), (4, v41), (25, .slice (some ⟨Z, 0, none⟩) 4 4), (26, .int .i64 4), (27, .int .i64 ((i + 1 : Nat) : Int))]) ⟨rfl, rfl, rfl, rfl, rfl, trivial⟩
      clear F45
      refine kFin rfl ?_
      rw [← numsB_snoc _ i q HQ.out] at HO
      refine frThenN ⟨⟨i + 1, _, by omega, F46, HO, HS⟩, ?_⟩
      rw [show intOf (a45.tmps.getD 27 undef) = ((i + 1 : Nat) : Int) by rw [F46.ev 27 rfl]; rfl]
      omega
    refine kGo ?_
    refine kTake (v := .bool false) FL rfl rfl rfl rfl ?y47 (fun a47 F47 => ?h47)
    case y47 =>
      have e26 := FL.ev 26 rfl; have g26 := FL.get 26 _ rfl; have e27 := FL.ev 27 rfl; have g27 := FL.get 27 _ rfl
      first | (go_simp; done) | (go_simp; omega)
    clear FL aL
    have F48 := F47.sub (l' := [(1, .pointer (some ⟨w.heap.size, 0, none⟩)), (4, vi), (28, .bool false)]) ⟨rfl, rfl, rfl, trivial⟩
    clear F47
    refine kFin rfl ?_
    refine frNext ?_
    refine wp_seq ?_
    refine frCond (b := false) F48 rfl ?_
    simp only [Bool.false_eq_true, if_false]
    refine wp_exit ?_
    refine frThenE ?_
    refine frThenE ?_
    refine frBlkE ?_
    refine frNext ?_
    refine wp_seq ?_
    refine wp_seq ?_
    obtain rfl : i = 4 := by omega
    replace HO : OwnB 5 wL w3.heap.size vi (numsB [x, y, z, (n : Int)] ++ opsB ((l.take 0).map OpV.d)) := by simpa [opsB] using HO
    have hnl := numsB_le [x, y, z, (n : Int)] HR2.out
    dsimp only [List.length_cons, List.length_nil] at hnl
    have OX := OX3.out.below HS
    refine kGo ?_
    refine kTake (v := ?v49) F48 rfl rfl rfl rfl ?y49 (fun a49 F49 => ?h49)
    case y49 =>
      have e1 := F48.ev 1 rfl; have g1 := F48.get 1 _ rfl
      go_simp; try with_reducible rfl
    clear F48 a47
    refine kTake (v := ?v50) F49 rfl rfl rfl rfl ?y50 (fun a50 F50 => ?h50)
    case y50 =>
      have q := OX.cs; have y0 := q.c0; have y1 := q.c1; have y2 := q.c2; have y3 := q.c3; clear q; have e40 := F49.ev 40 rfl; have g40 := F49.get 40 _ rfl
      go_simp; try with_reducible rfl
    clear F49 a49
    refine kTake (v := ?v51) F50 rfl rfl rfl rfl ?y51 (fun a51 F51 => ?h51)
    case y51 =>
      have e41 := F50.ev 41 rfl; have g41 := F50.get 41 _ rfl
      go_simp; try with_reducible rfl
    clear F50 a50
    refine kMove F51 rfl rfl rfl rfl rfl (fun a52 F52 => ?_)
    clear F51 a51
    have F53 := F52.sub (l' := [(1, .pointer (some ⟨w.heap.size, 0, none⟩)), (41, .slice A n c), (42, .int .i64 (n : Int)), (4, vi), (43, .int .i64 0)]) ⟨rfl, rfl, rfl, rfl, rfl, trivial⟩
    clear F52
    refine kFin rfl ?_
    refine frNext ?_
    refine frBlock ?_
    refine wp_loop (fun aM wM => ∃ (i : Nat) (v : Value), i ≤ n ∧ Fr aM 57 [(1, .pointer (some ⟨w.heap.size, 0, none⟩)), (41, .slice A n c), (42, .int .i64 (n : Int)), (4, v), (43, .int .i64 (i : Int))] ∧ OwnB 5 wM w3.heap.size v (numsB [x, y, z, (n : Int)] ++ opsB ((l.take i).map OpV.d)) ∧ Below w3.heap.size w3 wM) (fun aM _ => n - (intOf (aM.tmps.getD 43 undef)).toNat) ?st2 ?rd2
    case st2 => exact ⟨0, _, by omega, F53, HO, HS⟩
    case rd2 =>
      clear HO HS OX F53 a52
      rintro aM wM ⟨i, vi, hi, FM, HO, HS⟩
      rw [show intOf (aM.tmps.getD 43 undef) = (i : Int) by rw [FM.ev 43 rfl]; rfl]
      refine wp_seq ?_
      by_cases hlt : i < n
      · skip
        refine kGo ?_
        refine kTake (v := .bool true) FM rfl rfl rfl rfl ?y54 (fun a54 F54 => ?h54)
        case y54 =>
          have e42 := FM.ev 42 rfl; have g42 := FM.get 42 _ rfl; have e43 := FM.ev 43 rfl; have g43 := FM.get 43 _ rfl
          first | (go_simp; done) | (go_simp; omega)
        clear FM aM
        refine kFin rfl ?_
        refine frNext ?_
        refine wp_seq ?_
        refine frCond (b := true) F54 rfl ?_
        simp only [if_true]
        refine wp_skip ?_
        refine frNext ?_
        refine wp_seq ?_
        refine frBlock ?_
        refine wp_seq ?_
        have HL := H3.out.ops.below HS
        have GL := G3.out.below HS
        obtain ⟨bb, oo', hA, hx⟩ := HL.at_ (by omega)
        obtain ⟨p, hp⟩ : ∃ p, l[i]? = some p := ⟨_, List.getElem?_eq_getElem (by omega)⟩
        have hz := hx i p hp
        have hpi := HL.each p (List.mem_of_getElem? hp)
        have hpr := opsOk_mem HOK2.out (List.mem_map.2 ⟨p, List.mem_of_getElem? hp, rfl⟩)
        have hpre : opsOk ((l.take i).map OpV.d) = true := by
          have := HOK2.out
          simp only [opsOk, List.all_eq_true] at this ⊢
          intro d hd
          obtain ⟨q, hq, rfl⟩ := List.mem_map.1 hd
          exact this q.d (List.mem_map.2 ⟨q, List.mem_of_mem_take hq, rfl⟩)
        have HP := hid hp
        subst hA
        clear hx hp HL
        refine kGo ?_
        refine kTake (v := ?v55) F54 rfl rfl rfl rfl ?y55 (fun a55 F55 => ?h55)
        case y55 =>
          have e41 := F54.ev 41 rfl; have g41 := F54.get 41 _ rfl; have e43 := F54.ev 43 rfl; have g43 := F54.get 43 _ rfl
          first | (go_simp; done) | (go_simp; omega) | (go_simp; try with_reducible rfl)
        clear F54 a54
        refine kTake (v := opv p.d p.A p.n p.c) F55 rfl rfl rfl rfl ?y56 (fun a56 F56 => ?h56)
        case y56 =>
          have y0 := hz.c0; have y1 := hz.c1; have y2 := hz.c2; have y3 := hz.c3; have y4 := hz.c4; have y5 := hz.c5; have y6 := hz.c6; have y7 := hz.c7; have y8 := hz.c8; have y9 := hz.c9; have y10 := hz.c10; have y11 := hz.c11; have e45 := F55.ev 45 rfl; have g45 := F55.get 45 _ rfl
          go_simp; try with_reducible rfl
        clear F55 a55
        refine kVal (v := ?v57) (w' := wM.alloc (oo ⟨0, 0, 0, 0, 0, ⟨#[]⟩, [], 0, 0, 0, ⟨#[]⟩, false⟩ none 0 0)) F56 rfl rfl rfl rfl ?y57 (fun a57 F57 => ?h57)
        case y57 =>
          skip
          go_simp
          all_goals (first | with_reducible rfl | (constructor <;> first | with_reducible rfl | rfl) | skip)
        clear F56 a56
        refine kStore (w' := wM.alloc (oo p.d p.A p.n p.c)) F57 rfl rfl rfl ?y58 (fun a58 F58 => ?h58)
        case y58 =>
          have e10 := F57.ev 10 rfl; have g10 := F57.get 10 _ rfl; have e46 := F57.ev 46 rfl; have g46 := F57.get 46 _ rfl
          go_simp; try with_reducible rfl
        clear F57 a57
        clear hz
        have hb := below_alloc1 wM (oo p.d p.A p.n p.c)
        have OP := OAt.new wM p.d p.A p.n p.c _ rfl
        replace hpi := hpi.below hb
        replace GL := GL.below hb
        have HO2 : OwnB 5 (wM.alloc (oo p.d p.A p.n p.c)) w3.heap.size vi _ := owns_below HO hb
        replace HS := below_then HS hb
        clear hb HO
        have HO := HO2
        clear HO2
        generalize hbx : wM.heap.size = bx at *
        clear hbx
        generalize wM.alloc (oo p.d p.A p.n p.c) = w5 at *
        have F59 := F58.sub (l' := [(1, .pointer (some ⟨w.heap.size, 0, none⟩)), (41, .slice (some ⟨bb, oo', none⟩) n c), (42, .int .i64 (n : Int)), (4, vi), (43, .int .i64 (i : Int)), (10, .pointer (some ⟨bx, 0, none⟩))]) ⟨rfl, rfl, rfl, rfl, rfl, rfl, trivial⟩
        clear F58
        refine kFin rfl ?_
        refine frNext ?_
        refine wp_seq ?_
        refine kGo ?_
        refine kTake (v := opv p.d p.A p.n p.c) F59 rfl rfl rfl rfl ?y60 (fun a60 F60 => ?h60)
        case y60 =>
          have q := OP.cs; have y0 := q.c0; have y1 := q.c1; have y2 := q.c2; have y3 := q.c3; have y4 := q.c4; have y5 := q.c5; have y6 := q.c6; have y7 := q.c7; have y8 := q.c8; have y9 := q.c9; have y10 := q.c10; have y11 := q.c11; clear q; have e10 := F59.ev 10 rfl; have g10 := F59.get 10 _ rfl
          go_simp; try with_reducible rfl
        clear F59 a58
        refine kCall F60 rfl rfl rfl rfl (OPut_d p.d p.A p.n p.c _ hpi GL) ?y61 ?h61
        case y61 =>
          have e48 := F60.ev 48 rfl; have g48 := F60.get 48 _ rfl
          go_simp; try with_reducible rfl
        rintro e wN ⟨hokk, -⟩
        obtain ⟨u, rfl, ho, hb⟩ := hokk hpr
        clear hokk
        obtain ⟨Au, nu, cu, rfl, hu, -⟩ := ho.form
        have hul := hu.len
        have HO2 : OwnB _ wN _ _ _ := owns_below HO hb
        replace HS := below_then HS hb
        clear HO ho hb
        have HO := HO2
        clear HO2
        refine ⟨_, rfl, fun a61 F61 => ?_⟩
        clear F60 a60
        refine kMove F61 rfl rfl rfl rfl rfl (fun a62 F62 => ?_)
        clear F61 a61
        refine kMove F62 rfl rfl rfl rfl rfl (fun a63 F63 => ?_)
        clear F62 a62
        refine kMove F63 rfl rfl rfl rfl rfl (fun a64 F64 => ?_)
        clear F63 a63
        refine kMove F64 rfl rfl rfl rfl rfl (fun a65 F65 => ?_)
        clear F64 a64
        refine kMove F65 rfl rfl rfl rfl rfl (fun a66 F66 => ?_)
        clear F65 a65
        refine kFin rfl ?_
        refine frNext ?_
        refine kGo ?_
        refine kMove F66 rfl rfl rfl rfl rfl (fun a67 F67 => ?_)
        clear F66 a66
        refine kMove F67 rfl rfl rfl rfl rfl (fun a68 F68 => ?_)
        clear F67 a67
        have hst := opB_le hpr
        have hpl := opsB_le _ hpre
        rw [List.length_map] at hpl
        have hpt := List.length_take_le i l
        refine kAppB (w0 := w3) w3.heap.size F68 rfl rfl rfl rfl (t := 31) (e := 5) rfl Tryd.underlying31 info_u8 rfl rfl HO hu HS HS.size ?c69 ?h69
        case c69 => first | omega | (simp only [List.length_append]; omega)
        clear HO HS hu
        intro v69 w69x HO HS hg a69 F69
        clear hg
        clear F68 a68
        refine kMove F69 rfl rfl rfl rfl rfl (fun a70 F70 => ?_)
        clear F69 a69
        have F71 := F70.sub (l' := [(1, .pointer (some ⟨w.heap.size, 0, none⟩)), (41, .slice (some ⟨bb, oo', none⟩) n c), (42, .int .i64 (n : Int)), (4, v69), (43, .int .i64 (i : Int))]) ⟨rfl, rfl, rfl, rfl, rfl, trivial⟩
        clear F70
        refine kFin rfl ?_
        refine frBlkN ?_
        refine frNext ?_
        refine kGo ?_
        refine kTake (v := .int .i64 ((i + 1 : Nat) : Int)) F71 rfl rfl rfl rfl ?y72 (fun a72 F72 => ?h72)
        case y72 =>
          have e43 := F71.ev 43 rfl; have g43 := F71.get 43 _ rfl
          first | (go_simp; done) | (go_simp; simp only [IntKind.wrap_i64]; omega)
        clear F71 a70
        refine kMove F72 rfl rfl rfl rfl rfl (fun a73 F73 => ?_)
        clear F72 a72
        have F74 := F73.sub (l' := [(1, .pointer (some ⟨w.heap.size, 0, none⟩)), (41, .slice (some ⟨bb, oo', none⟩) n c), (42, .int .i64 (n : Int)), (4, v69), (43, .int .i64 ((i + 1 : Nat) : Int))]) ⟨rfl, rfl, rfl, rfl, rfl, trivial⟩
        clear F73
        refine kFin rfl ?_
        rw [List.append_assoc, ← opsB_snoc l i p HP.out] at HO
        refine frThenN ⟨⟨i + 1, _, by omega, F74, HO, HS⟩, ?_⟩
        rw [show intOf (a73.tmps.getD 43 undef) = ((i + 1 : Nat) : Int) by rw [F74.ev 43 rfl]; rfl]
        omega
      refine kGo ?_
      refine kTake (v := .bool false) FM rfl rfl rfl rfl ?y75 (fun a75 F75 => ?h75)
      case y75 =>
        have e42 := FM.ev 42 rfl; have g42 := FM.get 42 _ rfl; have e43 := FM.ev 43 rfl; have g43 := FM.get 43 _ rfl
        first | (go_simp; done) | (go_simp; omega)
      clear FM aM
      have F76 := F75.sub (l' := [(4, vi), (44, .bool false)]) ⟨rfl, rfl, trivial⟩
      clear F75
      refine kFin rfl ?_
      refine frNext ?_
      refine wp_seq ?_
      refine frCond (b := false) F76 rfl ?_
      simp only [Bool.false_eq_true, if_false]
      refine wp_exit ?_
      refine frThenE ?_
      refine frThenE ?_
      refine frBlkE ?_
      refine frNext ?_
      refine wp_seq ?_
      obtain rfl : i = n := by omega
      rw [List.take_of_length_le (by omega)] at HO
      refine kGo ?_
      refine kMove F76 rfl rfl rfl rfl rfl (fun a77 F77 => ?_)
      clear F76 a75
      refine kMove F77 rfl rfl rfl rfl rfl (fun a78 F78 => ?_)
      clear F77 a77
      refine kMove F78 rfl rfl rfl rfl rfl (fun a79 F79 => ?_)
      clear F78 a78
      refine kFin rfl ?_
      refine frNext ?_
      refine wp_ret ?_
      refine frRet2 rfl F79 rfl rfl ⟨fun _ => ⟨_, rfl, ?_, below_then HB3.out HS⟩, fun h => (by simp at h)⟩
      rw [HEQ.out]
      exact HO.lower HB3.out.size
set_option maxRecDepth 100000 in
set_option maxHeartbeats 4000000 in
theorem BFrame_any (b : BtD) (A : Option Addr) (n c : Nat) (l : List OpV) (w : World) (h : BtIs w b A n c l) (hg : RootsAt w) :
    Calls Tryd.prog 39 #[btv b.rep b.seq b.time A n c] w fun e w' => (bright b = true → OutB2 5 w (frameB (btB b)) 0 e w') ∧ (bright b = false → e = .returned (.tuple #[.slice none 0 0, .int .i64 1]) ∧ Below w.heap.size w w') := by
  have HB := Below.refl w.heap.size w
  have HBP := hid (BPut_any b A n c l)
  have HLE := hid (show bright b = true → (btB b).length ≤ 40000 from btB_le)
  obtain ⟨x, hx⟩ : ∃ x, b.rep = x := ⟨_, rfl⟩
  obtain ⟨y, hy⟩ : ∃ x, b.seq = x := ⟨_, rfl⟩
  obtain ⟨z, hz⟩ : ∃ x, b.time = x := ⟨_, rfl⟩
  rw [hx, hy, hz] at HBP
  rw [hx, hy, hz]
  clear hx hy hz
  generalize btB b = bs at *
  refine frCall (args := [btv x y z A n c]) (N := 18) Tryd.func39 rfl rfl rfl (fun a0 F0 => ?_)
  refine wp_seq ?_
  refine kGo ?_
  refine kVal (v := ?v1) (w' := w.alloc (bto x y z A n c)) F0 rfl rfl rfl rfl ?y1 (fun a1 F1 => ?h1)
  case y1 =>
    have e0 := F0.ev 0 rfl; have g0 := F0.get 0 _ rfl
    go_simp
    all_goals (first | with_reducible rfl | (constructor <;> first | with_reducible rfl | rfl) | skip)
  clear F0 a0
  refine kMove F1 rfl rfl rfl rfl rfl (fun a2 F2 => ?_)
  clear F1 a1
  refine kMove F2 rfl rfl rfl rfl rfl (fun a3 F3 => ?_)
  clear F2 a2
  have F4 := F3.sub (l' := [(1, .pointer (some ⟨w.heap.size, 0, none⟩))]) ⟨rfl, trivial⟩
  clear F3
  have hb := below_alloc1 w (bto x y z A n c)
  have OX := BAt.new w x y z A n c _ rfl
  replace hg := hg.below hb
  replace h := h.below hb
  replace HB := below_then HB hb
  clear hb
  generalize w.alloc (bto x y z A n c) = w1 at *
  refine kFin rfl ?_
  refine frNext ?_
  refine wp_seq ?_
  refine kGo ?_
  refine kTake (v := btv x y z A n c) F4 rfl rfl rfl rfl ?y5 (fun a5 F5 => ?h5)
  case y5 =>
    have q := OX.cs; have y0 := q.c0; have y1 := q.c1; have y2 := q.c2; have y3 := q.c3; clear q; have e1 := F4.ev 1 rfl; have g1 := F4.get 1 _ rfl
    go_simp; try with_reducible rfl
  clear F4 a3
  rcases hbr : bright b with _ | _
  · skip
    refine kCall F5 rfl rfl rfl rfl (HBP.out _ h hg) ?y6 ?h6
    case y6 =>
      have e7 := F5.ev 7 rfl; have g7 := F5.get 7 _ rfl
      go_simp; try with_reducible rfl
    rintro e w2 ⟨-, hno⟩
    obtain ⟨rfl, hb⟩ := hno hbr
    clear hno
    replace hg := hg.below hb
    replace h := h.below hb
    replace OX := OX.below hb
    replace HB := below_then HB hb
    clear hb
    refine ⟨_, rfl, fun a6 F6 => ?_⟩
    clear F5 a5
    refine kMove F6 rfl rfl rfl rfl rfl (fun a7 F7 => ?_)
    clear F6 a6
    refine kMove F7 rfl rfl rfl rfl rfl (fun a8 F8 => ?_)
    clear F7 a7
    refine kMove F8 rfl rfl rfl rfl rfl (fun a9 F9 => ?_)
    clear F8 a8
    refine kMove F9 rfl rfl rfl rfl rfl (fun a10 F10 => ?_)
    clear F9 a9
    refine kMove F10 rfl rfl rfl rfl rfl (fun a11 F11 => ?_)
    clear F10 a10
    refine kFin rfl ?_
    refine frNext ?_
    refine wp_seq ?_
    refine wp_seq ?_
    refine kGo ?_
    refine kMove F11 rfl rfl rfl rfl rfl (fun a12 F12 => ?_)
    clear F11 a11
    refine kTake (v := .bool true) F12 rfl rfl rfl rfl ?y13 (fun a13 F13 => ?h13)
    case y13 =>
      have e11 := F12.ev 11 rfl; have g11 := F12.get 11 _ rfl
      go_simp; try with_reducible rfl
    clear F12 a12
    refine kFin rfl ?_
    refine frNext ?_
    refine frCond (b := true) F13 rfl ?_
    simp only [if_true]
    refine wp_seq ?_
    refine kGo ?_
    refine kMove F13 rfl rfl rfl rfl rfl (fun a14 F14 => ?_)
    clear F13 a13
    refine kMove F14 rfl rfl rfl rfl rfl (fun a15 F15 => ?_)
    clear F14 a14
    refine kMove F15 rfl rfl rfl rfl rfl (fun a16 F16 => ?_)
    clear F15 a15
    refine kFin rfl ?_
    refine frNext ?_
    refine wp_ret ?_
    refine frThenRet ?_
    exact frRet2 rfl F16 rfl rfl ⟨fun h => (by simp at h), fun _ => ⟨rfl, HB⟩⟩
  refine kCall F5 rfl rfl rfl rfl (HBP.out _ h hg) ?y17 ?h17
  case y17 =>
    have e7 := F5.ev 7 rfl; have g7 := F5.get 7 _ rfl
    go_simp; try with_reducible rfl
  rintro e w2 ⟨hok, -⟩
  obtain ⟨v1, rfl, ho, hb⟩ := hok hbr
  clear hok
  obtain ⟨Ab, nb, cb, rfl, hB, -⟩ := ho.form
  clear ho
  have hBl := hB.len
  replace hg := hg.below hb
  replace h := h.below hb
  replace OX := OX.below hb
  replace HB := below_then HB hb
  clear hb
  refine ⟨_, rfl, fun a17 F17 => ?_⟩
  clear F5 a5
  refine kMove F17 rfl rfl rfl rfl rfl (fun a18 F18 => ?_)
  clear F17 a17
  refine kMove F18 rfl rfl rfl rfl rfl (fun a19 F19 => ?_)
  clear F18 a18
  refine kMove F19 rfl rfl rfl rfl rfl (fun a20 F20 => ?_)
  clear F19 a19
  refine kMove F20 rfl rfl rfl rfl rfl (fun a21 F21 => ?_)
  clear F20 a20
  refine kMove F21 rfl rfl rfl rfl rfl (fun a22 F22 => ?_)
  clear F21 a21
  refine kFin rfl ?_
  refine frNext ?_
  refine wp_seq ?_
  refine wp_seq ?_
  refine kGo ?_
  refine kMove F22 rfl rfl rfl rfl rfl (fun a23 F23 => ?_)
  clear F22 a22
  refine kTake (v := .bool false) F23 rfl rfl rfl rfl ?y24 (fun a24 F24 => ?h24)
  case y24 =>
    have e11 := F23.ev 11 rfl; have g11 := F23.get 11 _ rfl
    go_simp; try with_reducible rfl
  clear F23 a23
  refine kFin rfl ?_
  refine frNext ?_
  refine frCond (b := false) F24 rfl ?_
  simp only [Bool.false_eq_true, if_false]
  refine wp_skip ?_
  refine frNext ?_
  refine wp_seq ?_
  have hle := HLE.out hbr
  refine kGo ?_
  refine kMove F24 rfl rfl rfl rfl rfl (fun a25 F25 => ?_)
  clear F24 a24
  refine kCall F25 rfl rfl rfl rfl (Frame_ok Ab nb cb bs _ hB (by omega)) ?y26 ?h26
  case y26 =>
    have e14 := F25.ev 14 rfl; have g14 := F25.get 14 _ rfl
    go_simp; try with_reducible rfl
  rintro e w3 ⟨v2, rfl, ho, hb⟩
  have HO := ho.lower HB.size
  replace HB := below_then HB hb
  clear ho hb
  refine ⟨_, rfl, fun a26 F26 => ?_⟩
  clear F25 a25
  refine kMove F26 rfl rfl rfl rfl rfl (fun a27 F27 => ?_)
  clear F26 a26
  refine kMove F27 rfl rfl rfl rfl rfl (fun a28 F28 => ?_)
  clear F27 a27
  refine kMove F28 rfl rfl rfl rfl rfl (fun a29 F29 => ?_)
  clear F28 a28
  refine kMove F29 rfl rfl rfl rfl rfl (fun a30 F30 => ?_)
  clear F29 a29
  refine kFin rfl ?_
  refine frNext ?_
  refine wp_ret ?_
  exact frRet2 rfl F30 rfl rfl ⟨fun _ => ⟨_, rfl, HO, HB⟩, fun h => (by simp at h)⟩
end Go.Proofs.YtnakanophilfhaaDoor
