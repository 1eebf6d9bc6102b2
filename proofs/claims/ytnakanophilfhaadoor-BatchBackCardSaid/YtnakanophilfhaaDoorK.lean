/- Words of our own over any program: cells in a row, bytes that are read, rows that are owned. -/
import Derived.WalkKit
import Derived.WalkSpells
import Derived.WalkLawsBesides
import Derived.ScopeJumps
import Derived.Maps.AppendAt
import Derived.Lib.AppendStr
import Derived.Lib.ConvBytes
import Derived.Lib.SlBytesConst
import Derived.Laws.BytesArg
import Derived.Laws.AppendOwnNone
import Derived.BigQuiet
import Derived.Lib.AppendZerosOnto
import Derived.Deep.QuietTactic
import Derived.Deep.LoopGhost
import Derived.Deep.Light
set_option linter.unusedVariables false
set_option linter.unusedSimpArgs false
namespace Go.Dio
open Go.RowKit
theorem hid {p : Prop} (h : p) : RowKit.Hid p := h

/-- The cells from A on are cs. -/
def CellsAt (w : World) (A : Option Addr) (cs : List Value) : Prop :=
  cs = [] ∨ ∃ b o, A = some ⟨b, o, none⟩ ∧ ∀ i u, cs[i]? = some u → w.cell? ⟨b, o + i, none⟩ = some u

theorem CellsAt.nil (w : World) (A : Option Addr) : CellsAt w A [] := .inl rfl
theorem CellsAt.move {w w' : World} {A : Option Addr} {cs : List Value} (h : CellsAt w A cs) (hk : ∀ a, A = some a → w'.heap[a.block]? = w.heap[a.block]?) : CellsAt w' A cs := by
  rcases h with h | ⟨b, o, rfl, hc⟩
  · exact .inl h
  · refine .inr ⟨b, o, rfl, fun i u hu => ?_⟩
    rw [World.cell?_of_block (a := ⟨b, o + i, none⟩) (hk ⟨b, o, none⟩ rfl)]
    exact hc i u hu
theorem CellsAt.lt {w : World} {a : Addr} {cs : List Value} (h : CellsAt w (some a) cs) (hn : cs ≠ []) : a.block < w.heap.size := by
  rcases h with h | ⟨b, o, h1, hc⟩
  · exact absurd h hn
  · cases h1
    rcases cs with _ | ⟨c, cs⟩
    · exact absurd rfl hn
    · exact World.block_lt_of_cell? w _ (hc 0 c rfl)
theorem CellsAt.below {w w' : World} {A : Option Addr} {cs : List Value} (h : CellsAt w A cs) (hb : Below w.heap.size w w') : CellsAt w' A cs := by
  by_cases hn : cs = []
  · exact .inl hn
  · exact h.move fun a ha => by subst ha; exact hb.block _ (h.lt hn)
theorem CellsAt.grown {w w' : World} {A : Option Addr} {cs : List Value} {row : Option Nat} (h : CellsAt w A cs) (hb : w.grownBy w' row) (hr : ∀ a, A = some a → some a.block ≠ row) : CellsAt w' A cs := by
  by_cases hn : cs = []
  · exact .inl hn
  · exact h.move fun a ha => by subst ha; exact hb.block _ (h.lt hn) (hr _ rfl)
theorem CellsAt.new (w : World) (e : TypeId) (cs : Array Value) : CellsAt (w.alloc (.cells cs e)) (some ⟨w.heap.size, 0, none⟩) cs.toList := by
  refine .inr ⟨w.heap.size, 0, rfl, fun i u hu => ?_⟩
  rw [Nat.zero_add, cell_of_row _ w.heap.size i cs e (0, 0) (heap_alloc_new w _)]
  simpa using hu
theorem CellsAt.get {w : World} {A : Option Addr} {cs : List Value} (h : CellsAt w A cs) (hn : 0 < cs.length) : ∃ b o, A = some ⟨b, o, none⟩ ∧ ∀ i u, cs[i]? = some u → w.cell? ⟨b, o + i, none⟩ = some u := by
  rcases h with h | h
  · rw [h] at hn; simp at hn
  · exact h

/-- Where 'xs[m:]' stands. -/
def cutA (A : Option Addr) (c m sz : Nat) : Option Addr := if c = m then A else A.map (·.add (m * sz))
theorem CellsAt.cut {w : World} {A : Option Addr} {cs : List Value} (h : CellsAt w A cs) (n c m k sz : Nat) (hl : cs.length = n * sz) (hnc : n ≤ c) (hm : m + k ≤ n) :
    CellsAt w (cutA A c m sz) ((cs.drop (m * sz)).take (k * sz)) := by
  by_cases hk : k * sz = 0
  · rw [hk]; exact .inl rfl
  have hk0 : k ≠ 0 := by intro h; subst h; simp at hk
  rcases h with rfl | ⟨b, o, rfl, hc⟩
  · exact .inl (by simp)
  · have hne : c ≠ m := by omega
    refine .inr ⟨b, o + m * sz, by simp [cutA, hne, Addr.add_lit], fun i u hu => ?_⟩
    rw [List.getElem?_take] at hu
    split at hu
    · rw [List.getElem?_drop] at hu
      rw [Nat.add_assoc]
      exact hc _ _ hu
    · cases hu

section
variable {P : Program}
/-- 'xs[lo:hi]', 'xs[lo:]', 'xs[:hi]': rules for a walk. -/
theorem run_cut_lh (t e : TypeId) {i : TypeInfo} {sz : Nat} (ht : P.underlying t = some (.slice e)) (hi : P.info? e = some i) (hsz : i.size = sz) (A : Option Addr) (n c : Nat) (kl kh : IntKind) (lo hi' : Int) (h0 : 0 ≤ lo) (h1 : lo ≤ hi') (h2 : hi' ≤ c) :
    ∀ W : World, (Instr.slice t (.slice A n c) (some (.int kl lo)) (some (.int kh hi')) none).run P W = .ok (.slice (cutA A c lo.toNat sz) (hi'.toNat - lo.toNat) (c - lo.toNat)) W := by
  intro W
  have hel : P.elem t = e := by simp [Program.elem, ht]
  have hu : P.underlying t = some (.slice (P.elem t)) := by rw [hel]; exact ht
  rw [run_slice_lh W t A n c hu kl kh lo hi' h0 h1 h2, hel]
  simp [sizeOf, typeInfo, hi, hsz, sliced, Result.andThen, cutA]
theorem run_cut_l (t e : TypeId) {i : TypeInfo} {sz : Nat} (ht : P.underlying t = some (.slice e)) (hi : P.info? e = some i) (hsz : i.size = sz) (A : Option Addr) (n c : Nat) (kl : IntKind) (lo : Int) (h0 : 0 ≤ lo) (h1 : lo ≤ n) :
    ∀ W : World, (Instr.slice t (.slice A n c) (some (.int kl lo)) none none).run P W = .ok (.slice (cutA A c lo.toNat sz) (n - lo.toNat) (c - lo.toNat)) W := by
  intro W
  have hel : P.elem t = e := by simp [Program.elem, ht]
  have hu : P.underlying t = some (.slice (P.elem t)) := by rw [hel]; exact ht
  rw [run_slice_l W t A n c hu kl lo h0 h1, hel]
  simp [sizeOf, typeInfo, hi, hsz, sliced, Result.andThen, cutA]
theorem run_cut_h (t e : TypeId) {i : TypeInfo} {sz : Nat} (ht : P.underlying t = some (.slice e)) (hi : P.info? e = some i) (hsz : i.size = sz) (A : Option Addr) (n c : Nat) (kh : IntKind) (hi' : Int) (h0 : 0 ≤ hi') (h2 : hi' ≤ c) :
    ∀ W : World, (Instr.slice t (.slice A n c) none (some (.int kh hi')) none).run P W = .ok (.slice (cutA A c 0 sz) hi'.toNat c) W := by
  intro W
  have hel : P.elem t = e := by simp [Program.elem, ht]
  have hu : P.underlying t = some (.slice (P.elem t)) := by rw [hel]; exact ht
  rw [run_slice_h W t A n c hu kh hi' h0 h2, hel]
  simp [sizeOf, typeInfo, hi, hsz, sliced, Result.andThen, cutA]
end

theorem run_equalIn_nil {P : Program} (w : World) (d : Nat) (t e : TypeId) (a : Option Addr) (n c : Nat) (h : P.underlying t = some (.slice e)) :
    (Op.equalIn (d + 1) t (.slice a n c) (.slice none 0 0)).run P w = .ok a.isNone w := by
  cases a <;> simp [Op.equalIn, run_underlying h]
theorem run_eqnil {P : Program} (t e : TypeId) (h : P.underlying t = some (.slice e)) (a : Option Addr) (n c : Nat) (w : World) :
    (binOp .eql t (.slice a n c) (.slice none 0 0)).run P w = .ok (.bool a.isNone) w := by
  simp only [binOp]
  simp [Op.equal, Op.maxDepth, run_equalIn_nil w 9999 t e a n c h]
theorem run_nenil {P : Program} (t e : TypeId) (h : P.underlying t = some (.slice e)) (a : Option Addr) (n c : Nat) (w : World) :
    (binOp .neq t (.slice a n c) (.slice none 0 0)).run P w = .ok (.bool (!a.isNone)) w := by
  simp only [binOp]
  simp [Op.equal, Op.maxDepth, run_equalIn_nil w 9999 t e a n c h]

/-- Byte i, as a number. -/
def gb (xs : List UInt8) (i : Nat) : Int := ((xs.getD i 0).toNat : Int)
theorem gb_lo (xs : List UInt8) (i : Nat) : 0 ≤ gb xs i := Int.natCast_nonneg _
theorem gb_hi (xs : List UInt8) (i : Nat) : gb xs i < 256 := by have := (xs.getD i 0).toNat_lt; unfold gb; omega
/-- Bytes as values. -/
def bv (xs : List UInt8) : List Value := xs.map fun c => .int .u8 (c.toNat : Int)
theorem bv_length (xs : List UInt8) : (bv xs).length = xs.length := by simp [bv]
theorem bv_append (xs ys : List UInt8) : bv (xs ++ ys) = bv xs ++ bv ys := by simp [bv]
theorem bv_get (xs : List UInt8) (i : Nat) (h : i < xs.length) : (bv xs)[i]? = some (.int .u8 (gb xs i)) := by simp [bv, gb, h]
theorem bv_one (xs : List UInt8) : ∀ u ∈ bv xs, u.oneCell' = true := by
  intro u hu; simp only [bv, List.mem_map] at hu; obtain ⟨_, _, rfl⟩ := hu; rfl

/-- A slice that reads as bytes. -/
structure IsB (w : World) (A : Option Addr) (n c : Nat) (xs : List UInt8) : Prop where
  len : xs.length = n
  cap : n ≤ c
  max : c ≤ 9223372036854775807
  cells : CellsAt w A (bv xs)

theorem IsB.some {w : World} {A : Option Addr} {n c : Nat} {xs : List UInt8} (h : IsB w A n c xs) (hn : 0 < n) :
    ∃ b o, A = some ⟨b, o, none⟩ ∧ ∀ i, i < n → w.cell? ⟨b, o + i, none⟩ = some (.int .u8 (gb xs i)) := by
  have hl := h.len
  obtain ⟨b, o, rfl, hc⟩ := h.cells.get (by rw [bv_length]; omega)
  exact ⟨b, o, rfl, fun i hi => hc i _ (bv_get xs i (by omega))⟩
theorem IsB.below {w w' : World} {A : Option Addr} {n c : Nat} {xs : List UInt8} (h : IsB w A n c xs) (hb : Below w.heap.size w w') : IsB w' A n c xs := ⟨h.len, h.cap, h.max, h.cells.below hb⟩
theorem IsB.move {w w' : World} {A : Option Addr} {n c : Nat} {xs : List UInt8} (h : IsB w A n c xs) (hk : ∀ a, A = .some a → w'.heap[a.block]? = w.heap[a.block]?) : IsB w' A n c xs := ⟨h.len, h.cap, h.max, h.cells.move hk⟩
theorem IsB.grown {w w' : World} {A : Option Addr} {n c : Nat} {xs : List UInt8} {row : Option Nat} (h : IsB w A n c xs) (hb : w.grownBy w' row) (hr : ∀ a, A = .some a → .some a.block ≠ row) : IsB w' A n c xs := ⟨h.len, h.cap, h.max, h.cells.grown hb hr⟩
theorem IsB.cut {w : World} {A : Option Addr} {n c : Nat} {xs : List UInt8} (h : IsB w A n c xs) (m k : Nat) (hm : m + k ≤ n) : IsB w (cutA A c m 1) k (c - m) ((xs.drop m).take k) := by
  have hc := h.cap; have hl := h.len; have hx := h.max
  refine ⟨by rw [List.length_take, List.length_drop]; omega, by omega, by omega, ?_⟩
  have := h.cells.cut n c m k 1 (by rw [bv_length]; omega) hc hm
  simpa [bv, List.map_take, List.map_drop] using this
theorem IsB.drop {w : World} {A : Option Addr} {n c : Nat} {xs : List UInt8} (h : IsB w A n c xs) (m : Nat) (hm : m ≤ n) : IsB w (cutA A c m 1) (n - m) (c - m) (xs.drop m) := by
  have := h.cut m (n - m) (by omega)
  rwa [List.take_of_length_le (by rw [List.length_drop, h.len]; exact Nat.le_refl _)] at this
theorem IsB.take {w : World} {A : Option Addr} {n c : Nat} {xs : List UInt8} (h : IsB w A n c xs) (k : Nat) (hk : k ≤ n) : IsB w (cutA A c 0 1) k c (xs.take k) := by
  simpa using h.cut 0 k (by omega)
theorem IsB.nil (w : World) : IsB w none 0 0 [] := ⟨rfl, Nat.le_refl _, by omega, .inl rfl⟩

/-- A row of bytes of the call's own, from block base on. -/
def OwnB (e : TypeId) (w : World) (base : Nat) (v : Value) (xs : List UInt8) : Prop := w.ownsRow base e 1 v xs.length (bv xs)

theorem owns_form {w : World} {base n : Nat} {e : TypeId} {size : Nat} {v : Value} {cs : List Value} (h : w.ownsRow base e size v n cs) :
    ∃ A c, v = .slice A n c ∧ n ≤ c ∧ c ≤ 9223372036854775807 ∧ CellsAt w A cs ∧ (∀ a, A = some a → base ≤ a.block ∧ a.block < w.heap.size ∧ v.ownBlock = some a.block) := by
  rcases h.2 with ⟨rfl, rfl⟩ | ⟨g, cap, cur, rfl, hb, hg, h1, h2, _⟩
  · have h0 : cs = [] := List.eq_nil_of_length_eq_zero (by simpa using h.1)
    exact ⟨none, 0, rfl, Nat.le_refl _, by omega, .inl h0, fun a ha => by cases ha⟩
  · refine ⟨_, cap, rfl, h1, by simp only [maxLen] at h2; omega, .inr ⟨g, 0, rfl, fun i u hu => ?_⟩, fun a ha => ?_⟩
    · have := h.cells (g := g) rfl i u hu
      rwa [Addr.add_lit] at this
    · cases ha
      exact ⟨hb, (Array.getElem?_eq_some_iff.1 hg).1, rfl⟩
theorem OwnB.form {e : TypeId} {w : World} {base : Nat} {v : Value} {xs : List UInt8} (h : OwnB e w base v xs) :
    ∃ A n c, v = .slice A n c ∧ IsB w A n c xs ∧ (∀ a, A = some a → base ≤ a.block ∧ a.block < w.heap.size ∧ v.ownBlock = some a.block) := by
  obtain ⟨A, c, rfl, h1, h2, h3, h4⟩ := owns_form h
  exact ⟨A, _, c, rfl, ⟨rfl, h1, h2, h3⟩, h4⟩
theorem OwnB.nil (e : TypeId) (w : World) (base : Nat) : OwnB e w base (.slice none 0 0) [] := World.ownsRow_nil w base e 1
theorem owns_base {w : World} {base n : Nat} {e : TypeId} {size : Nat} {v : Value} {cs : List Value} (h : w.ownsRow base e size v n cs) (k : Nat) (hk : v.ownBlock = some k) : base ≤ k := (h.lt k hk).1
theorem owns_below {w w1 : World} {base n : Nat} {e : TypeId} {size : Nat} {v : Value} {cs : List Value} (h : w.ownsRow base e size v n cs) (hb : Below w.heap.size w w1) : w1.ownsRow base e size v n cs :=
  h.kept (row := none) ⟨hb.os, hb.tape, hb.output, hb.size, fun i hi _ => hb.block i hi⟩ (by cases v.ownBlock <;> simp)
theorem owns_lower {w : World} {base base' n : Nat} {e : TypeId} {size : Nat} {v : Value} {cs : List Value} (h : w.ownsRow base e size v n cs) (hb : base' ≤ base) : w.ownsRow base' e size v n cs := by
  refine ⟨h.1, ?_⟩
  rcases h.2 with h2 | ⟨g, cap, cur, rfl, h3, h4⟩
  · exact .inl h2
  · exact .inr ⟨g, cap, cur, rfl, by omega, h4⟩
theorem OwnB.lit (e : TypeId) (w : World) (base : Nat) (xs : List UInt8) (hb : base ≤ w.heap.size) (hm : xs.length ≤ 9223372036854775807) :
    OwnB e (w.alloc (.cells (bv xs).toArray e)) base (.slice (some ⟨w.heap.size, 0, none⟩) xs.length xs.length) xs := by
  have h := World.ownsRow_lit (base := base) (e := e) (size := 1) w (bv xs).toArray xs.length hb (by simpa [maxLen] using hm) (by simp [bv])
  simpa [OwnB] using h
theorem OwnB.at_ {e : TypeId} {w : World} {base : Nat} {v : Value} {xs : List UInt8} (h : OwnB e w base v xs) (hn : 0 < xs.length) :
    ∃ g cap, v = .slice (some ⟨g, 0, none⟩) xs.length cap ∧ base ≤ g ∧ g < w.heap.size ∧ xs.length ≤ cap ∧ cap ≤ 9223372036854775807 ∧ (∀ i, i < xs.length → w.cell? ⟨g, i, none⟩ = some (.int .u8 (gb xs i))) ∧ (∀ i, w.frozen? ⟨g, i, none⟩ = false) ∧
      ∀ i (b : UInt8), OwnB e (w.setCell ⟨g, i, none⟩ (.int .u8 (b.toNat : Int))) base v (xs.set i b) ∧ w.grownBy (w.setCell ⟨g, i, none⟩ (.int .u8 (b.toNat : Int))) (some g) := by
  rcases h.2 with ⟨_, h0⟩ | ⟨g, cap, cur, rfl, hb, hg, h1, h2, _⟩
  · omega
  · refine ⟨g, cap, rfl, hb, (Array.getElem?_eq_some_iff.1 hg).1, h1, by simp only [maxLen] at h2; omega, fun i hi => ?_, fun i => h.frozenAt i, fun i b => ?_⟩
    · rw [h.cellAt i (by omega), bv_get xs i hi]
    · obtain ⟨r1, r2⟩ := h.stored i (.int .u8 (b.toNat : Int))
      refine ⟨?_, r2⟩
      show World.ownsRow _ _ _ _ _ _ _
      rw [List.length_set]
      have e1 : bv (xs.set i b) = (bv xs).set i (.int .u8 (b.toNat : Int)) := by simp [bv, List.map_set]
      rw [e1]; exact r1
theorem grown_below {w w' : World} {row : Option Nat} {B : Nat} {w0 : World} (hb : Below B w0 w) (hB : B ≤ w.heap.size) (hg : w.grownBy w' row) (hr : ∀ k, row = some k → B ≤ k) : Below B w0 w' := hb.grown hg hB hr
theorem below_le {B : Nat} {w w' : World} (h : Below w.heap.size w w') (hB : B ≤ w.heap.size) : Below B w w' := h.mono hB

theorem IsB.new1 (w : World) (e : TypeId) (x : Int) (b : UInt8) (hx : x = b.toNat) : IsB (w.alloc (.cells #[.int .u8 x] e)) (.some ⟨w.heap.size, 0, none⟩) 1 1 [b] := by
  subst hx
  exact ⟨rfl, Nat.le_refl _, by omega, CellsAt.new w e _⟩

section
variable {P : Program} {ops : Array Oper} {rest : List Oper} {o : Oper} {a : Act} {Q : Exit → Act → World → Prop} {W : World}
/-- append(v, ys...): v a row of the call's own, ys what a slice reads as, nil let in. -/
theorem wpList_append (base : Nat) (hgd : o.guard = none) (s x : Operand) (t e : TypeId) (z : Value) (size bytes : Nat)
    (ho : o.op = .call { callee := .builtin .append, args := #[s, x], argTypes := #[t, t] })
    (ht : P.underlying t = some (.slice e)) (hinfo : (P.info? e).map (fun i => (i.zero, i.size, i.bytes)) = some (some z, size, bytes)) (hz : z.cells.size = size) (hsz : 0 < size) (hb0 : 0 < bytes)
    (v : Value) (n m : Nat) (cs ds : List Value) (A : Option Addr) (c : Nat) (hs : a.eval s = v) (hx : a.eval x = .slice A m c)
    (HO : W.ownsRow base e size v n cs) (HR : CellsAt W A ds) (hm : ds.length = m * size) (h1 : ∀ u ∈ ds, u.oneCell' = true) (hbase : base ≤ W.heap.size) (hl : (n + m) * bytes ≤ 140737488355328)
    (h : ∀ v1 w1, w1.ownsRow base e size v1 (n + m) (cs ++ ds) → W.grownBy w1 v.ownBlock → (v1.ownBlock = v.ownBlock ∨ v1.ownBlock = some W.heap.size) → wpList P ops Q rest (a.put o.dst v1) w1) :
    wpList P ops Q (o :: rest) a W := by
  obtain ⟨i, hi, hz0, hz1, hz2⟩ := info_parts hinfo
  have hnm : n + m ≤ 140737488355328 := Nat.le_trans (Nat.le_mul_of_pos_right _ hb0) hl
  rcases HR with rfl | ⟨b, off, rfl, hc⟩
  · have hm0 : m = 0 := by
      have : m * size = 0 := by simpa using hm.symm
      rcases Nat.mul_eq_zero.1 this with h | h
      · exact h
      · omega
    subst hm0
    rcases A with _ | ad
    · have hrun : (Builtin.append_ #[t, t] o.type #[v, .slice none 0 c]).run P W = .ok v W := by
        rcases HO.2 with ⟨rfl, hn⟩ | ⟨g, cap, cur, rfl, _, _, hnc, _⟩
        · simp [Builtin.append_, run_underlying ht, sizeOf, typeInfo, hi, Builtin.lenOf, Builtin.firstCells]
        · simp [Builtin.append_, run_underlying ht, sizeOf, typeInfo, hi, Builtin.lenOf, Builtin.firstCells, hnc, storeCells]
      refine wpList_plain hgd fun K hK => ?_
      unfold Oper.wp execOp
      simp only [ho, resolve, invoke, builtin, Sem.run_bind, Sem.run_pure, Result.andThen_ok, List.map_toArray, List.map_cons, List.map_nil, hs, hx, hrun]
      exact hK _ _ (h v W (by simpa using HO) (World.grownBy.refl W _) (.inl rfl))
    · exact wpList_append_own_at W hgd s x t ho base e i z size bytes ht hi hz0 hz1 hz2 hz hsz v n cs hs HO ad 0 c [] hx (by simp) (by simp) (by simp) (by simp only [maxLen]; omega) hl hbase
        fun v1 w1 r1 r2 _ r4 => h v1 w1 r1 r2 r4
  · exact wpList_append_own_at W hgd s x t ho base e i z size bytes ht hi hz0 hz1 hz2 hz hsz v n cs hs HO ⟨b, off, none⟩ m c ds hx hm (by simpa [Addr.add_lit] using hc) h1 (by simp only [maxLen]; omega) hl hbase
      fun v1 w1 r1 r2 _ r4 => h v1 w1 r1 r2 r4

/-- append(b, ys...) of bytes. -/
theorem wpList_append_b {w0 : World} (base : Nat) (hgd : o.guard = none) (s x : Operand) (t e : TypeId)
    (ho : o.op = .call { callee := .builtin .append, args := #[s, x], argTypes := #[t, t] })
    (ht : P.underlying t = some (.slice e)) (hinfo : (P.info? e).map (fun i => (i.zero, i.size, i.bytes)) = some (some (.int .u8 0), 1, 1))
    (v : Value) (m : Nat) (xs ys : List UInt8) (A : Option Addr) (c : Nat) (hs : a.eval s = v) (hx : a.eval x = .slice A m c)
    (HO : OwnB e W base v xs) (HR : IsB W A m c ys) (HB : Below base w0 W) (hbase : base ≤ W.heap.size) (hl : xs.length + m ≤ 140737488355328)
    (h : ∀ v1 w1, OwnB e w1 base v1 (xs ++ ys) → Below base w0 w1 → W.grownBy w1 v.ownBlock → (v1.ownBlock = v.ownBlock ∨ v1.ownBlock = some W.heap.size) → wpList P ops Q rest (a.put o.dst v1) w1) :
    wpList P ops Q (o :: rest) a W :=
  wpList_append base hgd s x t e (.int .u8 0) 1 1 ho ht hinfo rfl (by omega) (by omega) v xs.length m (bv xs) (bv ys) A c hs hx HO HR.cells (by rw [bv_length, HR.len]; omega) (bv_one ys) hbase (by omega)
    fun v1 w1 r1 r2 r3 => h v1 w1 (by rw [← HR.len, ← bv_append] at r1; show w1.ownsRow _ _ _ _ _ _; rw [List.length_append]; exact r1) (HB.grown r2 hbase (owns_base HO)) r2 r3
/-- append(nil, make([]byte, k)...). -/
theorem wpList_append_zeros (hgd : o.guard = none) (s x : Operand) (t u e : TypeId)
    (ho : o.op = .call { callee := .builtin .append, args := #[s, x], argTypes := #[t, u] })
    (ht : P.underlying t = some (.slice e)) (hu : P.underlying u = some (.int .i64)) (hinfo : (P.info? e).map (fun i => (i.zero, i.size, i.bytes)) = some (some (.int .u8 0), 1, 1))
    (k : Nat) (hs : a.eval s = .slice none 0 0) (hx : a.eval x = .int .i64 k) (h0 : 0 < k) (hk : k ≤ 70368744177664)
    (h : ∀ c cur, cur.size = c → k ≤ c → c ≤ maxLen → wpList P ops Q rest (a.put o.dst (.slice (some ⟨W.heap.size, 0, none⟩) k c)) (W.drew.alloc (.cells cur e))) :
    wpList P ops Q (o :: rest) a W := by
  obtain ⟨i, hi, hz0, hz1, hz2⟩ := info_parts hinfo
  have hr := Lib.run_append_grow_zeros (P := P) W t u o.type e i (.int .u8 0) .i64 .i64 ht hu hi hz0 none 0 0 [] (by simp [Builtin.firstCells]) k h0 (by omega) (by omega) (by omega) (by rw [hz2]; omega)
    (by rw [hz2, Nat.mul_one]; simp only [Builtin.nextslicecap]; split <;> omega)
  simp only [Nat.zero_add] at hr
  refine wpList_plain hgd fun K hK => ?_
  unfold Oper.wp execOp
  simp only [ho, resolve, invoke, builtin, Sem.run_bind, Sem.run_pure, Result.andThen_ok, List.map_toArray, List.map_cons, List.map_nil, hs, hx, hr]
  refine hK _ _ (h _ _ ?_ (grownCap_ge W k 0 e) (grownCap_le_maxLen W k 0 e (by simp only [maxLen]; omega)))
  have := grownCap_ge W k 0 e
  simp [size_zeroCells, Value.cells]
  omega

/-- append(b, s...) of a text. -/
theorem wpList_append_s {w0 : World} (base : Nat) (hgd : o.guard = none) (s x : Operand) (t u e : TypeId)
    (ho : o.op = .call { callee := .builtin .append, args := #[s, x], argTypes := #[t, u] })
    (ht : P.underlying t = some (.slice e)) (hu : P.underlying u = some .string) (hinfo : (P.info? e).map (fun i => (i.zero, i.size, i.bytes)) = some (some (.int .u8 0), 1, 1))
    (v : Value) (xs : List UInt8) (y : ByteArray) (hs : a.eval s = v) (hx : a.eval x = .string y)
    (HO : OwnB e W base v xs) (HB : Below base w0 W) (hbase : base ≤ W.heap.size) (hl : xs.length + y.size ≤ 140737488355328)
    (h : ∀ v1 w1, OwnB e w1 base v1 (xs ++ y.data.toList) → Below base w0 w1 → W.grownBy w1 v.ownBlock → wpList P ops Q rest (a.put o.dst v1) w1) :
    wpList P ops Q (o :: rest) a W := by
  obtain ⟨i, hi, hz0, hz1, hz2⟩ := info_parts hinfo
  refine Lib.wpList_append_own_string W hgd s x t u ho base e i ht hu hi hz0 hz1 hz2 v xs.length (bv xs) hs HO y hx (by simp only [maxLen]; omega) hl hbase ?_
  intro v1 w1 hown hg _
  refine h v1 w1 ?_ (HB.grown hg hbase (owns_base HO)) hg
  have e1 : (xs ++ y.data.toList).length = xs.length + y.size := by rw [List.length_append, Array.length_toList]; rfl
  have e2 : bv (xs ++ y.data.toList) = bv xs ++ Lib.strCells y := by rw [bv_append]; simp [bv, Lib.strCells]
  rw [OwnB, e1, e2]; exact hown
end

/-- A call's answer: a new row of bytes; nothing that was there has turned. -/
def OutB (e : TypeId) (w : World) (xs : List UInt8) (en : Ending) (w' : World) : Prop := ∃ v, en = .returned v ∧ OwnB e w' w.heap.size v xs ∧ Below w.heap.size w w'
/-- .. with a number behind it. -/
def OutB2 (e : TypeId) (w : World) (xs : List UInt8) (err : Int) (en : Ending) (w' : World) : Prop := ∃ v, en = .returned (.tuple #[v, .int .i64 err]) ∧ OwnB e w' w.heap.size v xs ∧ Below w.heap.size w w'
/-- A call's answer in the world as it was, but for draws. -/
def Drawn (w w' : World) : Prop := ∃ k, w' = w.drewN k
theorem Drawn.refl (w : World) : Drawn w w := ⟨0, rfl⟩
theorem Drawn.step {w w' : World} (h : Drawn w w') (n : Nat) : Drawn w (w'.drewN n) := by obtain ⟨k, rfl⟩ := h; exact ⟨k + n, by simp⟩
theorem Drawn.below {w w' : World} (h : Drawn w w') : Below w.heap.size w w' := by obtain ⟨k, rfl⟩ := h; exact below_drewN (Below.refl _ _) k

/-- A slice of slices that read as bytes. -/
structure IsBB (w : World) (A : Option Addr) (n c : Nat) (xss : List (List UInt8)) : Prop where
  len : xss.length = n
  cap : n ≤ c
  max : c ≤ 9223372036854775807
  cells : ∃ vs, vs.length = n ∧ CellsAt w A vs ∧ ∀ i v, vs[i]? = some v → ∃ A' n' c', v = .slice A' n' c' ∧ IsB w A' n' c' (xss.getD i [])
theorem IsBB.get {w : World} {A : Option Addr} {n c : Nat} {xss : List (List UInt8)} (h : IsBB w A n c xss) (i : Nat) (hi : i < n) :
    ∃ b o A' n' c', A = some ⟨b, o, none⟩ ∧ w.cell? ⟨b, o + i, none⟩ = some (.slice A' n' c') ∧ IsB w A' n' c' (xss.getD i []) := by
  obtain ⟨vs, hl, hc, hv⟩ := h.cells
  obtain ⟨b, o, rfl, hcell⟩ := hc.get (by omega)
  obtain ⟨A', n', c', e, hb⟩ := hv i _ (List.getElem?_eq_getElem (by omega))
  exact ⟨b, o, A', n', c', rfl, by rw [hcell i _ (List.getElem?_eq_getElem (by omega)), e], hb⟩
theorem IsBB.below {w w' : World} {A : Option Addr} {n c : Nat} {xss : List (List UInt8)} (h : IsBB w A n c xss) (hb : Below w.heap.size w w') : IsBB w' A n c xss := by
  obtain ⟨vs, hl, hc, hv⟩ := h.cells
  exact ⟨h.len, h.cap, h.max, vs, hl, hc.below hb, fun i v hi => by obtain ⟨A', n', c', e, q⟩ := hv i v hi; exact ⟨A', n', c', e, q.below hb⟩⟩

/-- Bytes as a text. -/
def mkS (xs : List UInt8) : ByteArray := ⟨xs.toArray⟩
theorem mkS_inj {xs ys : List UInt8} (h : mkS xs = mkS ys) : xs = ys := by simpa [mkS] using h
theorem mkS_eq (xs ys : List UInt8) : mkS xs = mkS ys ↔ xs = ys := ⟨mkS_inj, fun h => by rw [h]⟩
theorem mkS_data (s : ByteArray) : mkS s.data.toList = s := by simp [mkS]
theorem mkS_toList (xs : List UInt8) : (mkS xs).data.toList = xs := by simp [mkS]
theorem mkS_size (xs : List UInt8) : (mkS xs).size = xs.length := by simp [mkS, ByteArray.size]
theorem run_string {P : Program} (src dst e : TypeId) (hs : P.underlying src = some (.slice e)) (he : P.underlying e = some (.int .u8)) (hd : P.underlying dst = some .string)
    {w : World} {A : Option Addr} {n c : Nat} {xs : List UInt8} (h : IsB w A n c xs) : (convert src dst (.slice A n c)).run P w = .ok (.string (mkS xs)) w := by
  have hl := h.len
  rcases h.cells with h0 | ⟨b, o, rfl, hc⟩
  · have hx : xs = [] := List.eq_nil_of_length_eq_zero (by rw [← bv_length, h0]; rfl)
    subst hx
    have hn : n = 0 := by simpa using hl.symm
    subst hn
    rcases A with _ | ⟨b, o, sp⟩
    · exact run_convert_bytes_nil w src e hs he 0 c dst hd
    · rw [run_convert_bytes_string w src dst e _ 0 c hs he hd]
      simp [Conv.bytesToString, mkS, loadCells]
      rfl
  · have := run_convert_bytes_arg w src e hs he b o n c (xs.map fun c => (c.toNat : Int)) (by simpa using hl)
      (fun i hi => by have := hc i _ (bv_get xs i (by omega)); rw [this]; simp [gb, List.getD_eq_getElem?_getD, hl ▸ hi]) dst hd
    rw [this]
    congr 2
    have e1 : ((fun n : Int => UInt8.ofNat n.toNat) ∘ fun c : UInt8 => (c.toNat : Int)) = id := by funext c; simp
    simp [strOfNums, mkS, e1]

theorem or_256 (q : Nat) (g : Int) (_h0 : 0 ≤ (q : Int)) (h1 : q < 281474976710656) (h2 : 0 ≤ g) (h3 : g < 256) : bits .or .i64 ((q : Int) * 256) g = (q : Int) * 256 + g :=
  bits_join .i64 63 (by decide) (fun n a b => by rw [IntKind.wrap_i64]; omega) 8 _ _ (by omega) (by omega) (by omega) h2 (by omega) (by omega)

theorem bits_xor32 (a b : Nat) (ha : a < 4294967296) (hb : b < 4294967296) : bits .xor .u32 (a : Int) (b : Int) = ((a ^^^ b : Nat) : Int) := by
  have ha' : a % 2 ^ IntKind.u32.bits = a := Nat.mod_eq_of_lt ha
  have hb' : b % 2 ^ IntKind.u32.bits = b := Nat.mod_eq_of_lt hb
  have hx : a ^^^ b < 4294967296 := Nat.xor_lt_two_pow (n := 32) ha hb
  simp only [bits, BitVec.ofInt_natCast, BitVec.toNat_xor, BitVec.toNat_ofNat, ha', hb']
  rw [IntKind.wrap_u32]; omega

theorem and_one32 (r : Nat) (h : r < 4294967296) : bits .and .u32 (r : Int) 1 = ((r % 2 : Nat) : Int) := by
  have := bits_mask .u32 32 (by decide) (fun n a b => by rw [IntKind.wrap_u32]; omega) 1 (by decide) (r : Int) (by omega) (by omega)
  simp at this; omega
theorem and_ones32 (r : Nat) (h : r < 4294967296) : bits .and .u32 (r : Int) 4294967295 = (r : Int) := by
  have := bits_mask .u32 32 (by decide) (fun n a b => by rw [IntKind.wrap_u32]; omega) 32 (by decide) (r : Int) (by omega) (by omega)
  simp at this; omega
theorem and_zero32 (r : Nat) (h : r < 4294967296) : bits .and .u32 (r : Int) 0 = 0 := by
  have := bits_mask .u32 32 (by decide) (fun n a b => by rw [IntKind.wrap_u32]; omega) 0 (by decide) (r : Int) (by omega) (by omega)
  simpa [Int.emod_one] using this

theorem xor_ones (r : Nat) (h : r < 4294967296) : 4294967295 ^^^ r = 4294967295 - r := by
  have h1 := congrArg BitVec.toNat (BitVec.not_def (x := BitVec.ofNat 32 r))
  rw [BitVec.toNat_not, BitVec.toNat_xor, BitVec.toNat_ofNat, BitVec.toNat_allOnes, Nat.mod_eq_of_lt (by omega)] at h1
  have : (2 : Nat) ^ 32 = 4294967296 := by decide
  rw [this] at h1
  exact h1.symm
theorem not_u32 (r : Nat) (h : r < 4294967296) : wrap64 (bits .xor .u32 IntKind.u32.max (r : Int)) = ((4294967295 - r : Nat) : Int) := by
  have e : IntKind.u32.max = ((4294967295 : Nat) : Int) := by decide
  rw [e, bits_xor32 _ _ (by omega) h, xor_ones r h]
  unfold wrap64; omega

theorem ret3_int {k1 k2 k3 : IntKind} {a b c a' b' c' : Int} (h1 : a = a') (h2 : b = b') (h3 : c = c') :
    Ending.returned (.tuple #[.int k1 a, .int k2 b, .int k3 c]) = .returned (.tuple #[.int k1 a', .int k2 b', .int k3 c']) := by rw [h1, h2, h3]
theorem ret_bool {a b : Bool} (h : a = b) : Ending.returned (.bool a) = .returned (.bool b) := by rw [h]
theorem ret_int {k : IntKind} {a b : Int} (h : a = b) : Ending.returned (.int k a) = .returned (.int k b) := by rw [h]

section
variable {P : Program} {a : Act} {w : World} {Q : Exit → Act → World → Prop}
/-- A scope with a goto that leads forward: behind it the rest from the label on is walked. -/
theorem wp_scope_fwd {c rest : Code} (l : Nat) (hf : findLabel c l = some rest)
    (first : c.wp P (Exit.jump l (fun a w => rest.wp P (Exit.noGoto Q) a w) Q) a w) : (Code.scope c).wp P Q a w :=
  wp_scope_jumps l _ (fun _ _ => 0) hf first (fun _ _ h => Code.wp_mono (fun e _ _ q => by cases e <;> first | exact q | exact q.elim) h)
theorem Exit.jump_ret (l : Nat) (J : Act → World → Prop) : Exit.jump l J Q .ret a w = Q .ret a w := rfl
end
end Go.Dio
