/- What comes in, of any type made of numbers, bools, texts, slices and structs: read as plain data, by the type's shape. -/
import Derived.Test.YtnakanophilfhaaDoorK7
import Derived.ChangeArms
set_option linter.unusedVariables false
set_option linter.unusedSimpArgs false
namespace Go.Dio
open Go.RowKit Go.ChangeShapes Go.WideShapes Go.ChangeAt

/-- A type's shape: 'pair .. unit' are a struct's fields. -/
inductive Sh where
  | int (k : IntKind)
  | bool
  | str
  | bytes
  | slice (s : Sh)
  | unit
  | pair (s t : Sh)

/-- How many cells. -/
def Sh.size : Sh → Nat
  | .unit => 0
  | .pair s t => s.size + t.size
  | _ => 1

/-- What it reads as. -/
@[reducible] def Sh.T : Sh → Type
  | .int _ => Int
  | .bool => Bool
  | .str => ByteArray
  | .bytes => List UInt8
  | .slice s => List s.T
  | .unit => Unit
  | .pair s t => s.T × t.T

/-- A slice's elements: cells that lie one behind the other. -/
def RowOf {α : Type} (w : World) (A : Option Addr) (sz : Nat) (E : List Value → α → Prop) (l : List α) : Prop :=
  l = [] ∨ ∃ b o, A = some ⟨b, o, none⟩ ∧ ∀ i x, l[i]? = some x → ∃ cs, cs.length = sz ∧ (∀ j v, cs[j]? = some v → w.cell? ⟨b, o + i * sz + j, none⟩ = some v) ∧ E cs x

/-- These cells read as this. -/
def Sh.reads (w : World) : (s : Sh) → List Value → s.T → Prop
  | .int k, cs, x => cs = [.int k x] ∧ (Lit.int k x).wf = true
  | .bool, cs, x => cs = [.bool x]
  | .str, cs, x => cs = [.string x] ∧ x.size ≤ 9223372036854775807
  | .bytes, cs, x => ∃ A n c, cs = [.slice A n c] ∧ IsB w A n c x
  | .slice s, cs, l => ∃ A n c, cs = [.slice A n c] ∧ l.length = n ∧ n ≤ c ∧ c ≤ 9223372036854775807 ∧ RowOf w A s.size (fun cs x => s.reads w cs x) l
  | .unit, cs, _ => cs = []
  | .pair s t, cs, x => ∃ c1 c2, cs = c1 ++ c2 ∧ s.reads w c1 x.1 ∧ t.reads w c2 x.2

theorem RowOf.below {α : Type} {w w' : World} {A : Option Addr} {sz : Nat} {E E' : List Value → α → Prop} {l : List α} (h : RowOf w A sz E l) (hb : Below w.heap.size w w') (hE : ∀ cs x, E cs x → E' cs x) : RowOf w' A sz E' l := by
  rcases h with h | ⟨b, o, rfl, h⟩
  · exact .inl h
  · refine .inr ⟨b, o, rfl, fun i x hx => ?_⟩
    obtain ⟨cs, h1, h2, h3⟩ := h i x hx
    exact ⟨cs, h1, fun j v hv => by rw [hb.cell (World.block_lt_of_cell? _ _ (h2 j v hv))]; exact h2 j v hv, hE _ _ h3⟩

theorem Sh.reads_below {w w' : World} (hb : Below w.heap.size w w') : ∀ (s : Sh) (cs : List Value) (x : s.T), s.reads w cs x → s.reads w' cs x
  | .int k, cs, x, h => h
  | .bool, cs, x, h => h
  | .str, cs, x, h => h
  | .bytes, cs, x, ⟨A, n, c, h1, h2⟩ => ⟨A, n, c, h1, h2.below hb⟩
  | .slice s, cs, l, ⟨A, n, c, h1, h2, h3, h4, h5⟩ => ⟨A, n, c, h1, h2, h3, h4, h5.below hb (fun cs x h => Sh.reads_below hb s cs x h)⟩
  | .unit, cs, _, h => h
  | .pair s t, cs, x, ⟨c1, c2, h1, h2, h3⟩ => ⟨c1, c2, h1, Sh.reads_below hb s c1 x.1 h2, Sh.reads_below hb t c2 x.2 h3⟩

theorem Sh.reads_length {w : World} : ∀ (s : Sh) (cs : List Value) (x : s.T), s.reads w cs x → cs.length = s.size
  | .int k, cs, x, h => by rw [h.1]; rfl
  | .bool, cs, x, h => by rw [show cs = _ from h]; rfl
  | .str, cs, x, h => by rw [h.1]; rfl
  | .bytes, cs, x, ⟨A, n, c, h1, h2⟩ => by rw [h1]; rfl
  | .slice s, cs, l, ⟨A, n, c, h1, _⟩ => by rw [h1]; rfl
  | .unit, cs, _, h => by rw [show cs = _ from h]; rfl
  | .pair s t, cs, x, ⟨c1, c2, h1, h2, h3⟩ => by rw [h1, List.length_append, Sh.reads_length s c1 x.1 h2, Sh.reads_length t c2 x.2 h3]; rfl

mutual
/-- Is this type of that shape? -/
def Sh.okT (P : Program) : Sh → TypeId → Bool
  | .int k, t => (match P.underlying t with | some (.int k') => decide (k' = k) | _ => false) && P.cellsOf t == 1
  | .bool, t => (match P.underlying t with | some .bool => true | _ => false) && P.cellsOf t == 1
  | .str, t => (match P.underlying t with | some .string => true | _ => false) && P.cellsOf t == 1
  | .bytes, t => (match P.underlying t with | some (.slice e) => (match P.underlying e with | some (.int .u8) => P.cellsOf e == 1 | _ => false) | _ => false) && P.cellsOf t == 1
  | .slice s, t => (match P.underlying t with | some (.slice e) => s.okT P e && decide (0 < s.size) | _ => false) && P.cellsOf t == 1
  | .unit, t => (match P.underlying t with | some (.struct fs) => fs.isEmpty | _ => false) && P.cellsOf t == 0
  | .pair a b, t => (match P.underlying t with | some (.struct fs) => (match fs.toList with | f :: l => f.offset == 0 && a.okT P f.type && b.okF P l a.size | [] => false) | _ => false) && P.cellsOf t == a.size + b.size
/-- Are these fields, from this place on, of that shape? -/
def Sh.okF (P : Program) : Sh → List Field → Nat → Bool
  | .unit, l, _ => l.isEmpty
  | .pair a b, f :: l, off => f.offset == off && a.okT P f.type && b.okF P l (off + a.size)
  | _, _, _ => false
end

theorem Sh.okT_cells {P : Program} (s : Sh) (t : TypeId) (h : s.okT P t = true) : P.cellsOf t = s.size := by
  cases s <;> simp [Sh.okT] at h <;> simp [Sh.size, h.2]

section
variable {H : Type} {enc : TypeId × Value → H} {P : Program} {w : World} {base : Nat} {spare : Nat → Bool} {held : Bool}

theorem cells?_get {a : Addr} {n : Nat} {cs : List Value} (h : w.cells? base a n = some cs) : cs.length = n ∧ ∀ j v, cs[j]? = some v → w.cell? (a.add j) = some v := by
  unfold World.cells? at h
  split at h
  · refine ⟨by simpa using mapM_some_length h, fun j v hv => ?_⟩
    have hj : j < n := by
      have := (List.getElem?_eq_some_iff.1 hv).1
      have hl := mapM_some_length h
      simp at hl; omega
    have := mapM_some_get h j j (by simp [hj])
    rw [this, hv]
  · cases h

theorem row_of {s : Sh} {e : TypeId} {a : Addr} {len : Nat} {m : Nat} {elems : List (DataW H × List MemPlace)} (hc : P.cellsOf e = s.size) (hs : 0 < s.size) (hl : elems.length = len)
    (hel : ∀ i, i < len → (w.cells? base (a.add (i * P.cellsOf e)) (P.cellsOf e)).bind (DataW.trod enc P w base spare held m e) = elems[i]?)
    (ih : ∀ cs x, DataW.trod enc P w base spare held m e cs = some x → ∃ d, s.reads w cs d) :
    ∃ l : List s.T, l.length = len ∧ RowOf w (some a) s.size (fun cs x => s.reads w cs x) l := by
  have each : ∀ i, i < len → ∃ cs d, w.cells? base (a.add (i * P.cellsOf e)) (P.cellsOf e) = some cs ∧ s.reads w cs d := fun i hi => by
    have h := hel i hi
    rw [List.getElem?_eq_getElem (by omega), Option.bind_eq_some_iff] at h
    obtain ⟨cs, h1, h2⟩ := h
    obtain ⟨d, hd⟩ := ih _ _ h2
    exact ⟨cs, d, h1, hd⟩
  by_cases h0 : len = 0
  · exact ⟨[], by simp [h0], .inl rfl⟩
  have hsp : a.spot = none := by
    obtain ⟨cs, d, h1, h2⟩ := each 0 (by omega)
    obtain ⟨hcl, hcg⟩ := cells?_get h1
    have hcp : 0 < cs.length := by omega
    have := hcg 0 _ (List.getElem?_eq_getElem hcp)
    simpa [Addr.add] using World.cell?_spot this
  obtain ⟨b, o, sp⟩ := a
  simp only at hsp
  subst hsp
  have ex : ∃ f : Nat → s.T, ∀ i, i < len → ∃ cs, w.cells? base ((⟨b, o, none⟩ : Addr).add (i * P.cellsOf e)) (P.cellsOf e) = some cs ∧ s.reads w cs (f i) := by
    obtain ⟨cs0, d0, _⟩ := each 0 (by omega)
    refine ⟨fun i => if hi : i < len then (each i hi).choose_spec.choose else d0, fun i hi => ?_⟩
    simp only [hi, dif_pos]
    exact ⟨_, (each i hi).choose_spec.choose_spec⟩
  obtain ⟨f, hf⟩ := ex
  refine ⟨(List.range len).map f, by simp, .inr ⟨b, o, rfl, fun i x hx => ?_⟩⟩
  rw [List.getElem?_map, Option.map_eq_some_iff] at hx
  obtain ⟨i', hi', rfl⟩ := hx
  obtain ⟨hi1, hi2⟩ := List.getElem?_eq_some_iff.1 hi'
  simp at hi1 hi2
  subst hi2
  obtain ⟨cs, h1, h2⟩ := hf i hi1
  obtain ⟨hcl, hcg⟩ := cells?_get h1
  refine ⟨cs, by omega, fun j v hv => ?_, h2⟩
  have := hcg j v hv
  rw [Addr.add_lit, Addr.add_lit, hc] at this
  exact this

theorem Sh.open_both : ∀ s : Sh,
    (∀ t, s.okT P t = true → ∀ fuel cs x, DataW.trod enc P w base spare held fuel t cs = some x → ∃ d : s.T, s.reads w cs d) ∧
    (∀ fs off, s.okF P fs off = true → ∀ m (cs : List Value), cs.length = off + s.size →
      (∀ f ∈ fs, ∃ y, DataW.trod enc P w base spare held m f.type ((cs.drop f.offset).take (P.cellsOf f.type)) = some y) → ∃ d : s.T, s.reads w (cs.drop off) d)
  | .int k => by
    refine ⟨fun t h fuel cs x hx => ?_, fun fs off h => by simp [Sh.okF] at h⟩
    simp only [Sh.okT, Bool.and_eq_true] at h
    split at h <;> simp at h
    rename_i hu
    obtain ⟨rfl, _⟩ := h
    obtain ⟨n, h1, _, h2⟩ := DataW.trod_int hu hx
    exact ⟨n, h1, h2⟩
  | .bool => by
    refine ⟨fun t h fuel cs x hx => ?_, fun fs off h => by simp [Sh.okF] at h⟩
    simp only [Sh.okT, Bool.and_eq_true] at h
    split at h <;> simp at h
    rename_i hu
    obtain ⟨n, h1, _⟩ := DataW.trod_bool hu hx
    exact ⟨n, h1⟩
  | .str => by
    refine ⟨fun t h fuel cs x hx => ?_, fun fs off h => by simp [Sh.okF] at h⟩
    simp only [Sh.okT, Bool.and_eq_true] at h
    split at h <;> simp at h
    rename_i hu
    obtain ⟨n, h1, _, h2⟩ := DataW.trod_string hu hx
    exact ⟨n, h1, by simp only [maxLen] at h2; omega⟩
  | .bytes => by
    refine ⟨fun t h fuel cs x hx => ?_, fun fs off h => by simp [Sh.okF] at h⟩
    simp only [Sh.okT, Bool.and_eq_true] at h
    split at h
    · rename_i e hu
      obtain ⟨h1, h2⟩ := h
      split at h1
      · rename_i hue
        have hc : P.cellsOf e = 1 := by simpa using h1
        have hs : ∃ a len cap, cs = [.slice a len cap] := by
          rcases DataW.trod_slice hu hx with ⟨rfl, _⟩ | ⟨a, len, cap, _, _, _, _, rfl, _⟩
          · exact ⟨_, _, _, rfl⟩
          · exact ⟨_, _, _, rfl⟩
        obtain ⟨a, len, cap, rfl⟩ := hs
        obtain ⟨d, ps⟩ := x
        obtain ⟨zs, hz⟩ := isI_of_trod (k := .u8) (W := w) (base := base) (spare := spare) (held := held) (enc := enc) (P := P) (a := a) (len := len) (cap := cap) (d := d) (ps := ps) hu hue hc ⟨fuel, by simpa [Value.cells] using hx⟩
        exact ⟨_, a, len, cap, rfl, isB_of_isI hz⟩
      · cases h1
    · simp at h
  | .slice s => by
    refine ⟨fun t h fuel cs x hx => ?_, fun fs off h => by simp [Sh.okF] at h⟩
    simp only [Sh.okT, Bool.and_eq_true] at h
    split at h
    · rename_i e hu
      obtain ⟨h1, h2⟩ := h
      simp only [Bool.and_eq_true, decide_eq_true_eq] at h1
      rcases DataW.trod_slice hu hx with ⟨rfl, _⟩ | ⟨a, len, cap, elems, rest, m, _, rfl, _, _, hl, hm, hlen, hel, _⟩
      · exact ⟨[], none, 0, 0, rfl, rfl, Nat.le_refl _, by omega, .inl rfl⟩
      · obtain ⟨l, hll, hr⟩ := row_of (s := s) (Sh.okT_cells s e h1.1) h1.2 hlen hel (fun cs x hx => (Sh.open_both s).1 e h1.1 m cs x hx)
        exact ⟨l, some a, len, cap, rfl, hll, hl, by simp only [maxLen] at hm; omega, hr⟩
    · simp at h
  | .unit => by
    refine ⟨fun t h fuel cs x hx => ?_, fun fs off h m cs hl _ => ?_⟩
    · have hc := Sh.okT_cells .unit t h
      simp only [Sh.okT, Bool.and_eq_true] at h
      split at h
      · rename_i fs hu
        obtain ⟨xs, m, _, _, hl, _⟩ := DataW.trod_struct hu hx
        refine ⟨(), ?_⟩
        rw [hc] at hl
        exact List.eq_nil_of_length_eq_zero hl
      · simp at h
    · refine ⟨(), ?_⟩
      show cs.drop off = []
      rw [List.drop_eq_nil_iff]
      simp [Sh.size] at hl; omega
  | .pair a b => by
    have two : ∀ (f : Field) (l : List Field) (off : Nat), f.offset = off → a.okT P f.type = true → b.okF P l (off + a.size) = true → ∀ m (cs : List Value), cs.length = off + (a.size + b.size) →
        (∀ g ∈ f :: l, ∃ y, DataW.trod enc P w base spare held m g.type ((cs.drop g.offset).take (P.cellsOf g.type)) = some y) → ∃ d : (Sh.pair a b).T, (Sh.pair a b).reads w (cs.drop off) d := by
      intro f l off hf ha hb m cs hl hall
      obtain ⟨y, hy⟩ := hall f (List.mem_cons_self ..)
      obtain ⟨d1, hd1⟩ := (Sh.open_both a).1 _ ha m _ y hy
      obtain ⟨d2, hd2⟩ := (Sh.open_both b).2 l _ hb m cs (by omega) (fun g hg => hall g (List.mem_cons_of_mem _ hg))
      rw [Sh.okT_cells a _ ha, hf] at hd1
      refine ⟨(d1, d2), _, _, ?_, hd1, hd2⟩
      rw [← List.drop_drop, List.take_append_drop]
    refine ⟨fun t h fuel cs x hx => ?_, fun fs off h m cs hl hall => ?_⟩
    · have hc := Sh.okT_cells (.pair a b) t h
      simp only [Sh.okT, Bool.and_eq_true] at h
      split at h
      · rename_i fs hu
        obtain ⟨h1, h2⟩ := h
        obtain ⟨xs, m, _, _, hl, hxl, hxs⟩ := DataW.trod_struct hu hx
        split at h1
        · rename_i f l hfs
          simp only [Bool.and_eq_true, beq_iff_eq] at h1
          rw [hc] at hl
          have := two f l 0 h1.1.1 h1.1.2 (by rw [Nat.zero_add]; exact h1.2) m cs (by rw [Nat.zero_add]; exact hl) (fun g hg => by
            rw [← hfs] at hg
            obtain ⟨i, hi⟩ := List.getElem?_of_mem hg
            have := hxs i g (by simpa using hi)
            have hi2 : i < xs.length := by
              have := (List.getElem?_eq_some_iff.1 hi).1
              rw [hxl]; simpa using this
            rw [List.getElem?_eq_getElem hi2] at this
            exact ⟨_, this⟩)
          simpa using this
        · cases h1
      · simp at h
    · cases fs with
      | nil => simp [Sh.okF] at h
      | cons f l =>
        simp only [Sh.okF, Bool.and_eq_true, beq_iff_eq] at h
        exact two f l off h.1.1 h.1.2 h.2 m cs hl hall

/-- An argument, opened by its type's shape. -/
theorem Sh.open (s : Sh) {t : TypeId} {v : Value} {d : DataW H} {ps : List MemPlace} (hok : s.okT P t = true) (h : DataW.Trod enc P w base spare held t v d ps) : ∃ x : s.T, s.reads w v.cells.toList x := by
  obtain ⟨fuel, hf⟩ := h
  exact (Sh.open_both s).1 t hok fuel _ _ hf
end
end Go.Dio
