/- Decimal digits, in plain lists: what the document reads and writes as a number, and as a stamp. -/
import Derived.Test.YtdbghnfmhgjkaaaDoorStP
import Derived.Lib.IndexLaws
namespace Go.Proofs.YtdbghnfmhgjkaaaDoor
open Go.RowKit Go.Dio
set_option linter.unusedVariables false
set_option linter.unusedSimpArgs false

/-- Is it a digit? -/
def isD (c : UInt8) : Bool := decide (48 ≤ c.toNat ∧ c.toNat ≤ 57)
/-- Digits' number. -/
def dv (l : List UInt8) : Nat := l.foldl (fun a c => a * 10 + (c.toNat - 48)) 0
theorem dv_snoc (l : List UInt8) (c : UInt8) : dv (l ++ [c]) = dv l * 10 + (c.toNat - 48) := by simp [dv, List.foldl_append]
theorem dv_nil : dv [] = 0 := rfl
/-- The document's number of decimal digits. -/
def rnum (l : List UInt8) : Int := if l.length < 1 ∨ 15 < l.length ∨ (1 < l.length ∧ l.head? = some 48) then -1 else if l.all isD = true then (dv l : Int) else -1
theorem snoc_ind {p : List UInt8 → Prop} (h0 : p []) (h1 : ∀ l c, p l → p (l ++ [c])) (l : List UInt8) : p l := by
  have key : ∀ m : List UInt8, p m.reverse := by
    intro m
    induction m with
    | nil => exact h0
    | cons a m ih => rw [List.reverse_cons]; exact h1 _ _ ih
  have := key l.reverse
  rwa [List.reverse_reverse] at this
theorem dv_lt : ∀ (l : List UInt8), l.all isD = true → dv l < 10 ^ l.length := by
  refine snoc_ind (fun _ => by simp [dv]) ?_
  · intro l c ih h
    rw [List.all_append, Bool.and_eq_true] at h
    have h1 := ih h.1
    have h2 : 48 ≤ c.toNat ∧ c.toNat ≤ 57 := by simpa [isD] using h.2
    rw [dv_snoc, List.length_append, List.length_singleton, Nat.pow_succ]
    omega
theorem dd_small {u : Nat} (h : u < 10) : Lib.decDigits u = [UInt8.ofNat (48 + u)] := by rw [Lib.decDigits, dif_pos h]
theorem dd_step {u : Nat} (h : ¬ u < 10) : Lib.decDigits u = Lib.decDigits (u / 10) ++ [UInt8.ofNat (48 + u % 10)] := by rw [Lib.decDigits, dif_neg h]
theorem dv_digits : ∀ (u : Nat), dv (Lib.decDigits u) = u := by
  intro u
  induction u using Nat.strongRecOn with
  | ind u ih =>
    by_cases h : u < 10
    · rw [dd_small h]
      simp only [dv, List.foldl_cons, List.foldl_nil, dig_nat u h]
      omega
    · rw [dd_step h, dv_snoc, ih (u / 10) (by omega), dig_nat (u % 10) (by omega)]
      omega
theorem digits_all (u : Nat) : (Lib.decDigits u).all isD = true := by
  rw [List.all_eq_true]
  intro c hc
  have := dig_mem u c hc
  simpa [isD] using this
theorem digits_len : ∀ (k u : Nat), u < 10 ^ (k + 1) → (Lib.decDigits u).length ≤ k + 1 := by
  intro k
  induction k with
  | zero => intro u hu; rw [dd_small (by omega)]; simp
  | succ k ih =>
    intro u hu
    by_cases h : u < 10
    · rw [dd_small h]; simp
    · rw [dd_step h, List.length_append]
      have := ih (u / 10) (by rw [Nat.pow_succ] at hu; omega)
      simp; omega
theorem digits_head : ∀ (u : Nat), 0 < u → (Lib.decDigits u).head? ≠ some 48 := by
  intro u
  induction u using Nat.strongRecOn with
  | ind u ih =>
    intro hu
    by_cases h : u < 10
    · rw [dd_small h]
      simp only [List.head?_cons, ne_eq, Option.some.injEq]
      intro e
      have := congrArg UInt8.toNat e
      rw [dig_nat u h] at this
      simp at this; omega
    · rw [dd_step h]
      obtain ⟨c, r, e⟩ := dig_cons (u / 10)
      have := ih (u / 10) (by omega) (by omega)
      rw [e] at this ⊢
      simpa using this
theorem rnum_digits (u : Nat) (h : u < 1000000000000000) : rnum (Lib.decDigits u) = (u : Int) := by
  obtain ⟨c, r, e⟩ := dig_cons u
  have h1 := digits_len 14 u (by omega)
  unfold rnum
  rw [if_neg, if_pos (digits_all u), dv_digits]
  rintro (h2 | h2 | ⟨h2, h3⟩)
  · rw [e] at h2; simp at h2
  · omega
  · by_cases h0 : u = 0
    · subst h0
      rw [dd_small (by omega)] at h2
      simp at h2
    · exact digits_head u (by omega) h3
theorem of_dig {c : UInt8} (h : 48 ≤ c.toNat ∧ c.toNat ≤ 57) : UInt8.ofNat (48 + (c.toNat - 48)) = c := by
  rw [show 48 + (c.toNat - 48) = c.toNat by omega]
  simp
theorem digits_dv : ∀ (l : List UInt8), l ≠ [] → l.all isD = true → ¬ (1 < l.length ∧ l.head? = some 48) → Lib.decDigits (dv l) = l := by
  refine snoc_ind (fun h => absurd rfl h) ?_
  · intro l c ih _ hall hh
    rw [List.all_append, Bool.and_eq_true] at hall
    have h2 : 48 ≤ c.toNat ∧ c.toNat ≤ 57 := by simpa [isD] using hall.2
    rw [dv_snoc]
    rcases hl : l with _ | ⟨a, t⟩
    · rw [dv_nil, dd_small (by omega)]
      simp only [Nat.zero_mul, Nat.zero_add, List.nil_append]
      rw [of_dig h2]
    · rw [← hl]
      have hne : l ≠ [] := by rw [hl]; simp
      have hh' : ¬ (l.head? = some 48) := fun e => hh ⟨by rw [hl]; simp, by rw [hl] at e ⊢; simpa using e⟩
      have e := ih hne hall.1 (fun h => hh' h.2)
      have hpos : 0 < dv l := by
        rcases Nat.eq_zero_or_pos (dv l) with h0 | h0
        · exfalso
          rw [h0, dd_small (by omega)] at e
          exact hh' (by rw [← e]; rfl)
        · exact h0
      rw [dd_step (by omega), show (dv l * 10 + (c.toNat - 48)) / 10 = dv l by omega, e, show (dv l * 10 + (c.toNat - 48)) % 10 = c.toNat - 48 by omega, of_dig h2]
theorem rnum_inv {l : List UInt8} {n : Int} (h : rnum l = n) (hn : 0 ≤ n) : l = Lib.itoa n := by
  unfold rnum at h
  split at h
  · omega
  · rename_i h1
    split at h
    · rename_i h2
      simp only [not_or] at h1
      have hne : l ≠ [] := fun e => by rw [e] at h1; simp at h1
      have := digits_dv l hne h2 h1.2.2
      rw [← h, Lib.itoa_nonneg, this]
    · omega
theorem rnum_itoa {n : Int} (h0 : 0 ≤ n) (h1 : n < 1000000000000000) : rnum (Lib.itoa n) = n := by
  obtain ⟨u, rfl⟩ := Int.eq_ofNat_of_zero_le h0
  rw [Lib.itoa_nonneg, rnum_digits u (by omega)]
theorem rnum_hi (l : List UInt8) : -1 ≤ rnum l ∧ rnum l < 1000000000000000 := by
  unfold rnum
  split
  · omega
  · rename_i h1
    split
    · rename_i h2
      simp only [not_or] at h1
      have h3 := dv_lt l h2
      have h4 : 10 ^ l.length ≤ 10 ^ 15 := Nat.pow_le_pow_right (by omega) (by omega)
      omega
    · omega
theorem itoa_no64 {n : Int} {x : UInt8} (h : x ∈ Lib.itoa n) : x ≠ 64 := fun e => by
  have := itoa_mem h; subst e; simp at this
/-- The parts of a text around the first 64. -/
theorem cut64 {l : List UInt8} {i : Nat} (h : Lib.indexByte l 64 = (i : Int)) : i < l.length ∧ l = l.take i ++ 64 :: l.drop (i + 1) ∧ ∀ x ∈ l.take i, x ≠ 64 := by
  obtain ⟨h1, h2⟩ := Lib.indexByte_some h
  have hlt : i < l.length := (List.getElem?_eq_some_iff.1 h1).1
  refine ⟨hlt, ?_, fun x hx e => ?_⟩
  · have : l[i] = 64 := by have := List.getElem?_eq_some_iff.1 h1; exact this.2
    rw [← this, List.getElem_cons_drop, List.take_append_drop]
  · obtain ⟨k, hk, e1⟩ := List.getElem_of_mem hx
    rw [List.length_take] at hk
    rw [List.getElem_take] at e1
    exact h2 k (by omega) (by rw [List.getElem?_eq_getElem (by omega), e1, e])
theorem app64 : ∀ {a a' b b' : List UInt8}, (∀ x ∈ a, x ≠ 64) → (∀ x ∈ a', x ≠ 64) → a ++ 64 :: b = a' ++ 64 :: b' → a = a' ∧ b = b'
  | [], [], b, b', _, _, h => by simpa using h
  | [], y :: a', b, b', _, h2, h => by
    simp only [List.nil_append, List.cons_append, List.cons.injEq] at h
    exact absurd h.1.symm (h2 y (List.mem_cons_self ..))
  | x :: a, [], b, b', h1, _, h => by
    simp only [List.nil_append, List.cons_append, List.cons.injEq] at h
    exact absurd h.1 (h1 x (List.mem_cons_self ..))
  | x :: a, y :: a', b, b', h1, h2, h => by
    simp only [List.cons_append, List.cons.injEq] at h
    obtain ⟨e1, e2⟩ := h
    obtain ⟨e3, e4⟩ := app64 (fun z hz => h1 z (List.mem_cons_of_mem _ hz)) (fun z hz => h2 z (List.mem_cons_of_mem _ hz)) e2
    exact ⟨by rw [e1, e3], e4⟩
/-- What the document parses. -/
def rSP (l : List UInt8) : (Int × Int) × Bool :=
  if Lib.indexByte l 64 = -1 then ((0, 0), false)
  else if sright (rnum (l.take (Lib.indexByte l 64).toNat)) (rnum (l.drop ((Lib.indexByte l 64).toNat + 1))) = true
    then ((rnum (l.take (Lib.indexByte l 64).toNat), rnum (l.drop ((Lib.indexByte l 64).toNat + 1))), true) else ((0, 0), false)
theorem rSP_none {l : List UInt8} (h : Lib.indexByte l 64 = -1) : rSP l = ((0, 0), false) := if_pos h
theorem rSP_at {l : List UInt8} {i : Nat} (h : Lib.indexByte l 64 = (i : Int)) :
    rSP l = if sright (rnum (l.take i)) (rnum (l.drop (i + 1))) = true then ((rnum (l.take i), rnum (l.drop (i + 1))), true) else ((0, 0), false) := by
  unfold rSP
  rw [if_neg (by rw [h]; omega), h, Int.toNat_natCast]
/-- A text that is written as a stamp is parsed as it. -/
theorem rSP_pr {x y : Int} (h : sright x y = true) : rSP (prS x y) = ((x, y), true) := by
  obtain ⟨h0, h1, h2, h3⟩ := sright_bd h
  have hi : Lib.indexByte (prS x y) 64 = ((Lib.itoa x).length : Int) := by rw [prS]; exact index_at _ _ _ fun z hz => itoa_no64 hz
  have e1 : (prS x y).take (Lib.itoa x).length = Lib.itoa x := by rw [prS, List.take_left]
  have e2 : (prS x y).drop ((Lib.itoa x).length + 1) = Lib.itoa y := by rw [prS, ← List.drop_drop, List.drop_left]; rfl
  rw [rSP_at hi, e1, e2, rnum_itoa h0 (by omega), rnum_itoa h2 (by omega), if_pos h]
/-- .. and the other way. -/
theorem rSP_true {l : List UInt8} {x y : Int} (h : rSP l = ((x, y), true)) : sright x y = true ∧ prS x y = l := by
  by_cases hn : Lib.indexByte l 64 = -1
  · rw [rSP_none hn] at h; simp at h
  · have hge : ∃ i : Nat, Lib.indexByte l 64 = (i : Int) := by
      have : -1 ≤ Lib.indexByte l 64 := by
        clear hn h
        induction l with
        | nil => simp [Lib.indexByte]
        | cons a t ih =>
          unfold Lib.indexByte
          split
          · omega
          · split
            · omega
            · omega
      exact ⟨(Lib.indexByte l 64).toNat, by omega⟩
    obtain ⟨i, hi⟩ := hge
    rw [rSP_at hi] at h
    split at h
    · rename_i hs
      simp only [Prod.mk.injEq, and_true] at h
      obtain ⟨h1, h2⟩ := h
      rw [h1, h2] at hs
      obtain ⟨g0, g1, g2, g3⟩ := sright_bd hs
      obtain ⟨-, hl, -⟩ := cut64 hi
      refine ⟨hs, ?_⟩
      rw [prS, ← rnum_inv h1 g0, ← rnum_inv h2 g2, ← hl]
    · simp at h
theorem rSP_false {l : List UInt8} (h : (rSP l).2 = false) : rSP l = ((0, 0), false) := by
  unfold rSP at h ⊢
  split
  · rfl
  · rename_i h1
    rw [if_neg h1] at h
    split
    · rename_i h2; rw [if_pos h2] at h; simp at h
    · rfl
/-- What the program parses: both parts are read as numbers, may be a stamp, and that stamp is written as the text. -/
theorem rSP_prog {l : List UInt8} {i : Nat} (hi : Lib.indexByte l 64 = (i : Int)) (x y : Int) (hx : Lib.atoiAll (l.take i) = .ok x) (hy : Lib.atoiAll (l.drop (i + 1)) = .ok y) :
    rSP l = if sright x y = true ∧ prS x y = l then ((x, y), true) else ((0, 0), false) := by
  split
  · rename_i h
    have := rSP_pr h.1
    rw [h.2] at this
    exact this
  · rename_i h
    rcases hr : rSP l with ⟨⟨a, b⟩, _ | _⟩
    · have := rSP_false (l := l) (by rw [hr])
      rw [← hr]; exact this
    · exfalso
      obtain ⟨h1, h2⟩ := rSP_true hr
      obtain ⟨g0, g1, g2, g3⟩ := sright_bd h1
      obtain ⟨-, hl, hno⟩ := cut64 hi
      have e : l.take i ++ 64 :: l.drop (i + 1) = Lib.itoa a ++ 64 :: Lib.itoa b := by rw [← hl, ← h2]; rfl
      obtain ⟨e1, e2⟩ := app64 hno (fun z hz => itoa_no64 hz) e
      rw [e1, atoi_itoa a (by omega) (by omega)] at hx
      rw [e2, atoi_itoa b (by omega) (by omega)] at hy
      injection hx with hx; injection hy with hy
      subst hx; subst hy
      exact h ⟨h1, h2⟩
/-- .. and where a part is no number, nothing is parsed. -/
theorem rSP_bad {l : List UInt8} {i : Nat} (hi : Lib.indexByte l 64 = (i : Int)) (h : (∀ v, Lib.atoiAll (l.take i) ≠ .ok v) ∨ ∀ v, Lib.atoiAll (l.drop (i + 1)) ≠ .ok v) : rSP l = ((0, 0), false) := by
  rcases hr : rSP l with ⟨⟨a, b⟩, _ | _⟩
  · have := rSP_false (l := l) (by rw [hr])
    rw [← hr]; exact this
  · exfalso
    obtain ⟨h1, h2⟩ := rSP_true hr
    obtain ⟨g0, g1, g2, g3⟩ := sright_bd h1
    obtain ⟨-, hl, hno⟩ := cut64 hi
    have e : l.take i ++ 64 :: l.drop (i + 1) = Lib.itoa a ++ 64 :: Lib.itoa b := by rw [← hl, ← h2]; rfl
    obtain ⟨e1, e2⟩ := app64 hno (fun z hz => itoa_no64 hz) e
    rcases h with h | h
    · exact h a (by rw [e1]; exact atoi_itoa a (by omega) (by omega))
    · exact h b (by rw [e2]; exact atoi_itoa b (by omega) (by omega))
end Go.Proofs.YtdbghnfmhgjkaaaDoor
