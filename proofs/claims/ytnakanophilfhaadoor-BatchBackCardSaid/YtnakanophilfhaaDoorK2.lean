/- More words: slices of slices that are laid; steps of 'Below'. -/
import Derived.Test.YtnakanophilfhaaDoorK
set_option linter.unusedVariables false
set_option linter.unusedSimpArgs false
namespace Go.Dio
open Go.RowKit

theorem bits_xor64 (a b : Nat) (ha : a < 9223372036854775808) (hb : b < 9223372036854775808) : bits .xor .i64 (a : Int) (b : Int) = ((a ^^^ b : Nat) : Int) := by
  have ha' : a % 2 ^ IntKind.i64.bits = a := Nat.mod_eq_of_lt (Nat.lt_trans ha (by decide))
  have hb' : b % 2 ^ IntKind.i64.bits = b := Nat.mod_eq_of_lt (Nat.lt_trans hb (by decide))
  have hx : a ^^^ b < 9223372036854775808 := Nat.xor_lt_two_pow (n := 63) ha hb
  simp only [bits, BitVec.ofInt_natCast, BitVec.toNat_xor, BitVec.toNat_ofNat, ha', hb']
  rw [IntKind.wrap_i64]; omega
def sv (t : Option Addr × Nat × Nat × List UInt8) : Value := .slice t.1 t.2.1 t.2.2.1
theorem IsBB.new (W : World) (e : TypeId) (l : List (Option Addr × Nat × Nat × List UInt8)) (h : ∀ t ∈ l, IsB W t.1 t.2.1 t.2.2.1 t.2.2.2) (hl : l.length ≤ 9223372036854775807) :
    IsBB (W.alloc (.cells (l.map sv).toArray e)) (some ⟨W.heap.size, 0, none⟩) l.length l.length (l.map (·.2.2.2)) := by
  have hb : Below W.heap.size W (W.alloc (.cells (l.map sv).toArray e)) := (Below.refl _ _).alloc (Nat.le_refl _) _
  refine ⟨by simp, Nat.le_refl _, hl, l.map sv, by simp, CellsAt.new W e _, fun i v hv => ?_⟩
  rw [List.getElem?_map, Option.map_eq_some_iff] at hv
  obtain ⟨t, ht, rfl⟩ := hv
  refine ⟨t.1, t.2.1, t.2.2.1, rfl, ?_⟩
  have := (h t (List.mem_of_getElem? ht)).below hb
  simpa [List.getD_eq_getElem?_getD, List.getElem?_map, ht] using this
theorem IsB.newL (w : World) (e : TypeId) (xs : List UInt8) (hl : xs.length ≤ 9223372036854775807) : IsB (w.alloc (.cells (bv xs).toArray e)) (.some ⟨w.heap.size, 0, none⟩) xs.length xs.length xs :=
  ⟨rfl, Nat.le_refl _, hl, CellsAt.new w e _⟩
theorem IsB.newM (w : World) (e : TypeId) (xs : List UInt8) (fr : Nat × Nat) (hl : xs.length ≤ 9223372036854775807) : IsB (w.alloc (.cells (bv xs).toArray e fr)) (.some ⟨w.heap.size, 0, none⟩) xs.length xs.length xs := by
  refine ⟨rfl, Nat.le_refl _, hl, .inr ⟨w.heap.size, 0, rfl, fun i u hu => ?_⟩⟩
  rw [Nat.zero_add, cell_of_row _ w.heap.size i (bv xs).toArray e fr (heap_alloc_new w _)]
  simpa using hu
theorem OwnB.at2 {e : TypeId} {w : World} {base : Nat} {A : Option Addr} {n c : Nat} {xs : List UInt8} (h : OwnB e w base (.slice A n c) xs) (hn : 0 < n) :
    ∃ g, A = some ⟨g, 0, none⟩ ∧ base ≤ g ∧ g < w.heap.size ∧ n ≤ c ∧ c ≤ 9223372036854775807 ∧ xs.length = n ∧ (∀ i, i < n → w.cell? ⟨g, i, none⟩ = some (.int .u8 (gb xs i))) ∧ (∀ i, w.frozen? ⟨g, i, none⟩ = false) ∧
      ∀ i (b : UInt8), OwnB e (w.setCell ⟨g, i, none⟩ (.int .u8 (b.toNat : Int))) base (.slice A n c) (xs.set i b) ∧ w.grownBy (w.setCell ⟨g, i, none⟩ (.int .u8 (b.toNat : Int))) (some g) := by
  have hx : xs.length = n := by
    rcases h.2 with ⟨h1, h2⟩ | ⟨g, cap, cur, h1, _⟩
    · injection h1; omega
    · injection h1 with _ h2 _; exact h2.symm
  obtain ⟨g, cap, h1, h2, h3, h4, h5, h6, h7, h8⟩ := h.at_ (by omega)
  injection h1 with e1 e2 e3
  subst e1 e3
  exact ⟨g, rfl, h2, h3, by omega, h5, hx, fun i hi => h6 i (by omega), h7, h8⟩
theorem OwnB.len {e : TypeId} {w : World} {base : Nat} {A : Option Addr} {n c : Nat} {xs : List UInt8} (h : OwnB e w base (.slice A n c) xs) : xs.length = n := by
  rcases h.2 with ⟨h1, h2⟩ | ⟨g, cap, cur, h1, _⟩
  · injection h1; omega
  · injection h1 with _ h2 _; exact h2.symm
theorem below_then {w w1 w2 : World} (h : Below w.heap.size w w1) (k : Below w1.heap.size w1 w2) : Below w.heap.size w w2 := h.trans (k.mono h.size)
theorem below_new {w w1 : World} (h : Below w.heap.size w w1) (o : Obj) : Below w.heap.size w (w1.alloc o) := h.alloc h.size o
theorem below_alloc1 (w : World) (o : Obj) : Below w.heap.size w (w.alloc o) := (Below.refl _ _).alloc (Nat.le_refl _) o
theorem OwnB.cast {e : TypeId} {w : World} {b : Nat} {v : Value} {xs ys : List UInt8} (h : OwnB e w b v xs) (he : xs = ys) : OwnB e w b v ys := he ▸ h
theorem OwnB.lower {e : TypeId} {w : World} {b b' : Nat} {v : Value} {xs : List UInt8} (h : OwnB e w b v xs) (hb : b' ≤ b) : OwnB e w b' v xs := owns_lower h hb
theorem ret3v {v v' : Value} {k2 k3 : IntKind} {b c b' c' : Int} (h1 : v = v') (h2 : b = b') (h3 : c = c') :
    Ending.returned (.tuple #[v, .int k2 b, .int k3 c]) = .returned (.tuple #[v', .int k2 b', .int k3 c']) := by rw [h1, h2, h3]
/-- .. with two numbers behind it. -/
def OutB3 (e : TypeId) (w : World) (xs : List UInt8) (k err : Int) (en : Ending) (w' : World) : Prop := ∃ v, en = .returned (.tuple #[v, .int .i64 k, .int .i64 err]) ∧ OwnB e w' w.heap.size v xs ∧ Below w.heap.size w w'
theorem OutB3.nil (e : TypeId) (w : World) (k err : Int) : OutB3 e w [] k err (.returned (.tuple #[.slice none 0 0, .int .i64 k, .int .i64 err])) w := ⟨_, rfl, OwnB.nil _ _ _, Below.refl _ _⟩
end Go.Dio
