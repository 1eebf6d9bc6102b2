/- wire, in plain lists: a frame of which one byte is another one is not read as a frame of its length. -/
import Derived.Test.YtnakanophilfhaaDoorPure2
set_option linter.unusedVariables false
set_option linter.unusedSimpArgs false
namespace Go.Dio

theorem xor_cancel {a b p : Nat} (h : a ^^^ p = b ^^^ p) : a = b := by
  have := congrArg (· ^^^ p) h
  simpa [Nat.xor_assoc] using this
theorem crcBit_inj {r s : Nat} (hr : r < 4294967296) (hs : s < 4294967296) (h : crcBit r = crcBit s) : r = s := by
  have top : ∀ x : Nat, x < 4294967296 → (x / 2).testBit 31 = false := fun x hx => Nat.testBit_lt_two_pow (by show x / 2 < 2147483648; omega)
  have mix : ∀ x y : Nat, x < 4294967296 → y < 4294967296 → (x / 2) ^^^ 3988292384 ≠ y / 2 := fun x y hx hy e => by
    have := congrArg (Nat.testBit · 31) e
    simp only [Nat.testBit_xor, top x hx, top y hy] at this
    exact absurd this (by decide)
  unfold crcBit at h
  by_cases h1 : r % 2 = 1 <;> by_cases h2 : s % 2 = 1
  · rw [if_pos h1, if_pos h2] at h
    have := xor_cancel h; omega
  · rw [if_pos h1, if_neg h2] at h
    exact absurd h (mix r s hr hs)
  · rw [if_neg h1, if_pos h2] at h
    exact absurd h.symm (mix s r hs hr)
  · rw [if_neg h1, if_neg h2] at h
    omega
theorem crcBits_inj (k : Nat) : ∀ {r s : Nat}, r < 4294967296 → s < 4294967296 → crcBits k r = crcBits k s → r = s := by
  induction k with
  | zero => exact fun _ _ h => h
  | succ k ih => exact fun hr hs h => crcBit_inj hr hs (ih (crcBit_lt hr) (crcBit_lt hs) h)
theorem crcByte_inj {r s : Nat} (c : UInt8) (hr : r < 4294967296) (hs : s < 4294967296) (h : crcByte r c = crcByte s c) : r = s := by
  have hc := c.toNat_lt
  exact xor_cancel (crcBits_inj 8 (xor_lt32 hr (by omega)) (xor_lt32 hs (by omega)) h)
theorem crcByte_inj' {r : Nat} {c d : UInt8} (hr : r < 4294967296) (h : crcByte r c = crcByte r d) : c = d := by
  have hc := c.toNat_lt
  have hd := d.toNat_lt
  have := crcBits_inj 8 (xor_lt32 hr (by omega)) (xor_lt32 hr (by omega)) h
  rw [Nat.xor_comm r, Nat.xor_comm r] at this
  exact UInt8.toNat_inj.1 (xor_cancel this)
theorem crcR_inj (xs : List UInt8) : ∀ {r s : Nat}, r < 4294967296 → s < 4294967296 → crcR r xs = crcR s xs → r = s := by
  induction xs with
  | nil => exact fun _ _ h => h
  | cons c xs ih => exact fun hr hs h => crcByte_inj c hr hs (ih (crcByte_lt c hr) (crcByte_lt c hs) h)
theorem crcR_append (r : Nat) (xs ys : List UInt8) : crcR r (xs ++ ys) = crcR (crcR r xs) ys := by simp [crcR]
/-- One byte turned turns the sum. -/
theorem crc_set (xs : List UInt8) (i : Nat) (c : UInt8) (hi : i < xs.length) (h : crc (xs.set i c) = crc xs) : xs[i] = c := by
  have b0 : (4294967295 : Nat) < 4294967296 := by omega
  have h1 := crcR_lt (xs.set i c) b0
  have h2 := crcR_lt xs b0
  have e : crcR 4294967295 (xs.set i c) = crcR 4294967295 xs := by unfold crc at h; omega
  have e1 : xs = xs.take i ++ xs[i] :: xs.drop (i + 1) := by simp
  have e2 : xs.set i c = xs.take i ++ c :: xs.drop (i + 1) := by rw [List.set_eq_take_append_cons_drop, if_pos hi]
  rw [e2] at e
  have e3 : crcR 4294967295 xs = crcR 4294967295 (xs.take i ++ xs[i] :: xs.drop (i + 1)) := congrArg _ e1
  rw [e3, crcR_append, crcR_append] at e
  have ht := crcR_lt (xs.take i) b0
  have := crcR_inj (xs.drop (i + 1)) (crcByte_lt c ht) (crcByte_lt xs[i] ht) e
  exact (crcByte_inj' ht this).symm

theorem encN_mono (m : Nat) : ∀ n, m ≤ n → (encN m).length ≤ (encN n).length := by
  induction m using Nat.strongRecOn with
  | _ m ih =>
    intro n h
    by_cases h0 : m = 0
    · subst h0; rw [encN_zero]; simp
    · rw [encN_pos m h0, encN_pos n (by omega), List.length_append, List.length_append]
      have := ih (m / 256) (by omega) (n / 256) (by omega)
      simp; omega
theorem be_pos (l : List UInt8) (h : ∃ c t, l = c :: t ∧ c ≠ 0) : be l ≠ 0 := by
  obtain ⟨c, t, rfl, hc⟩ := h
  have hc0 : c.toNat ≠ 0 := fun e => hc (UInt8.toNat_inj.1 (by simpa using e))
  suffices h : ∀ (l : List UInt8) (a : Nat), a ≠ 0 → l.foldl (fun n c => n * 256 + c.toNat) a ≠ 0 from by
    simpa [be] using h t (0 * 256 + c.toNat) (by omega)
  intro l
  induction l with
  | nil => exact fun a h => h
  | cons x l ih => exact fun a h => ih (a * 256 + x.toNat) (by omega)
theorem encN_be (l : List UInt8) : l.head? ≠ some 0 → encN (be l) = l := by
  generalize hn : l.length = n
  induction n generalizing l with
  | zero => intro _; rw [List.eq_nil_of_length_eq_zero hn]; exact encN_zero
  | succ n ih =>
    intro h
    obtain ⟨t, c, rfl⟩ : ∃ t c, l = t ++ [c] := ⟨l.dropLast, l.getLast (by intro e; subst e; simp at hn), (List.dropLast_concat_getLast _).symm⟩
    have hl : t.length = n := by simpa using hn
    have hb : be (t ++ [c]) ≠ 0 := be_pos _ (by
      rcases t with _ | ⟨x, t⟩
      · exact ⟨c, [], rfl, fun e => h (by subst e; rfl)⟩
      · exact ⟨x, t ++ [c], rfl, fun e => h (by subst e; rfl)⟩)
    have hc := c.toNat_lt
    rw [encN_pos _ hb, be_snoc]
    rw [show (be t * 256 + c.toNat) / 256 = be t by omega, show (be t * 256 + c.toNat) % 256 = c.toNat by omega]
    rw [ih t hl (by rcases t with _ | ⟨x, t⟩; simp; exact h), UInt8.ofNat_toNat]

/-- What is read as a number was written as that number. -/
theorem numL_inv (t : List UInt8) (m k : Nat) (h : numL t = (m, k, 0)) : t.take k = numB m ∧ k = (numB m).length ∧ k ≤ t.length := by
  rcases t with _ | ⟨c, t⟩
  · simp [numL] at h
  · simp only [numL] at h
    split at h
    · simp at h
    split at h
    · simp at h
    split at h
    · simp at h
    · rename_i h1 h2 h3
      simp only [Prod.mk.injEq, and_true] at h
      obtain ⟨rfl, rfl⟩ := h
      have hl : (t.take c.toNat).length = c.toNat := by rw [List.length_take]; omega
      have he : encN (be (t.take c.toNat)) = t.take c.toNat := encN_be _ (by
        intro e
        by_cases h0 : c.toNat = 0
        · rw [h0] at e; simp at e
        · exact h2 ⟨by omega, by rw [List.head?_take, if_neg h0] at e; exact e⟩)
      refine ⟨?_, ?_, by simp; omega⟩
      · rw [List.take_succ_cons, numB, he, hl, UInt8.ofNat_toNat]
      · rw [numB, List.length_cons, he, hl]

/-- What is unframed without an error. -/
theorem unfL_inv (xs i : List UInt8) (n : Nat) (h : unfL xs = (i, n, 0)) : ∃ m, m ≤ 1048576 ∧ n = 1 + (numB m).length + m + 4 ∧ n ≤ xs.length ∧ xs.take (1 + (numB m).length) = 93 :: numB m ∧
    i = (xs.drop (1 + (numB m).length)).take m ∧ fourB (crc i) = (xs.drop (1 + (numB m).length + m)).take 4 := by
  rcases xs with _ | ⟨c, t⟩
  · simp [unfL] at h
  · simp only [unfL] at h
    split at h
    · simp at h
    rename_i h0
    rcases hn : numL t with ⟨m, k, e⟩
    rw [hn] at h
    simp only at h
    split at h
    · rename_i he; simp only [Prod.mk.injEq] at h; exact absurd h.2.2 he
    split at h
    · simp at h
    split at h
    · simp at h
    split at h
    · simp at h
    rename_i h1 h2 h3 h4
    simp only [Prod.mk.injEq, and_true] at h
    obtain ⟨rfl, rfl⟩ := h
    have he : e = 0 := by simpa using h1
    subst he
    obtain ⟨q1, q2, q3⟩ := numL_inv t m k hn
    have hc : c = 93 := by simpa using h0
    subst hc
    have q2' := q2.symm
    have d1 : ∀ j, List.drop (1 + j) ((93 : UInt8) :: t) = t.drop j := fun j => by rw [Nat.add_comm, List.drop_succ_cons]
    rw [List.length_drop] at h3
    refine ⟨m, by omega, by rw [q2'], by rw [List.length_cons]; omega, by rw [q2', Nat.add_comm, List.take_succ_cons, q1], by rw [q2', d1], ?_⟩
    rw [q2', show 1 + k + m = 1 + (k + m) by omega, d1, ← List.drop_drop]
    simpa using h4
/-- With an error there is nothing. -/
theorem unfL_err (xs : List UInt8) (h : (unfL xs).2.2 ≠ 0) : (unfL xs).1 = [] ∧ (unfL xs).2.1 = 0 := by
  rcases xs with _ | ⟨c, t⟩
  · exact ⟨rfl, rfl⟩
  · simp only [unfL] at h ⊢
    split at h
    · rename_i q; rw [if_pos q]; exact ⟨rfl, rfl⟩
    rename_i q; rw [if_neg q]
    rcases hn : numL t with ⟨m, k, e⟩
    rw [hn] at h
    simp only at h ⊢
    split at h
    · rename_i q; rw [if_pos q]; exact ⟨rfl, rfl⟩
    rename_i q; rw [if_neg q]
    split at h
    · rename_i q; rw [if_pos q]; exact ⟨rfl, rfl⟩
    rename_i q; rw [if_neg q]
    split at h
    · rename_i q; rw [if_pos q]; exact ⟨rfl, rfl⟩
    rename_i q; rw [if_neg q]
    split at h
    · rename_i q; rw [if_pos q]; exact ⟨rfl, rfl⟩
    · exact absurd rfl h

/-- P106. -/
theorem rot_told (b : List UInt8) (at_ : Nat) (c : UInt8) (ha : at_ < (frameB b).length) (hc : (frameB b)[at_] ≠ c) (i : List UInt8) (h : unfL ((frameB b).set at_ c) = (i, (frameB b).length, 0)) : False := by
  obtain ⟨m, h1, h2, h3, h4, h5, h6⟩ := unfL_inv _ _ _ h
  have hfl := frameB_len b
  have hm : m = b.length := by
    rcases Nat.lt_trichotomy m b.length with q | q | q
    · have := encN_mono m b.length (by omega); simp only [numB, List.length_cons] at h2 hfl; omega
    · exact q
    · have := encN_mono b.length m (by omega); simp only [numB, List.length_cons] at h2 hfl; omega
  subst hm
  generalize hk : (numB b.length).length = k at *
  have hf : frameB b = (93 :: numB b.length) ++ (b ++ fourB (crc b)) := by simp [frameB]
  have hkl : (93 :: numB b.length).length = 1 + k := by simp [hk]; omega
  have hge : 1 + k ≤ at_ := by
    rcases Nat.lt_or_ge at_ (1 + k) with q | q
    · exfalso
      have e1 : ((frameB b).set at_ c).take (1 + k) = (frameB b).take (1 + k) := by rw [h4, hf, ← hkl, List.take_left]
      have e2 := congrArg (fun l => l[at_]?) e1
      simp only [List.getElem?_take, if_pos q] at e2
      rw [List.getElem?_set_self (by omega), List.getElem?_eq_getElem ha] at e2
      exact hc (Option.some.inj e2).symm
    · exact q
  obtain ⟨j, rfl⟩ : ∃ j, at_ = 1 + k + j := ⟨at_ - (1 + k), by omega⟩
  have hs : (frameB b).set (1 + k + j) c = (93 :: numB b.length) ++ ((b ++ fourB (crc b)).set j c) := by
    rw [hf, List.set_append_right _ _ (by omega), hkl, Nat.add_sub_cancel_left]
  have hd : ((frameB b).set (1 + k + j) c).drop (1 + k) = (b ++ fourB (crc b)).set j c := by rw [hs, ← hkl, List.drop_left]
  rw [hd] at h5
  rw [← List.drop_drop, hd] at h6
  have hg : (frameB b)[1 + k + j] = (b ++ fourB (crc b))[j]'(by simp [fourB_len]; omega) := by
    simp only [hf]
    rw [List.getElem_append_right (by omega)]
    congr 1; omega
  rw [hg] at hc
  by_cases hjb : j < b.length
  · rw [List.set_append_left _ _ hjb, List.take_left' (by simp)] at h5
    rw [List.set_append_left _ _ hjb, List.drop_left' (by simp), List.take_of_length_le (by simp [fourB_len])] at h6
    rw [List.getElem_append_left hjb] at hc
    rw [h5] at h6
    have e : crc (b.set j c) = crc b := by
      have q1 := crc_lt (b.set j c)
      have q2 := crc_lt b
      simp only [fourB, List.cons.injEq, and_true] at h6
      obtain ⟨a1, a2, a3, a4⟩ := h6
      have t1 := congrArg UInt8.toNat a1; have t2 := congrArg UInt8.toNat a2; have t3 := congrArg UInt8.toNat a3; have t4 := congrArg UInt8.toNat a4
      simp only [UInt8.toNat_ofNat'] at t1 t2 t3 t4
      omega
    exact hc (crc_set b j c hjb e)
  · have hjl : j - b.length < 4 := by rw [hfl] at ha; omega
    rw [List.set_append_right _ _ (by omega)] at h5 h6
    rw [List.take_left] at h5
    rw [List.drop_left, List.take_of_length_le (by simp [fourB_len]), h5] at h6
    rw [List.getElem_append_right (by omega)] at hc
    have e2 := congrArg (fun l => l[j - b.length]?) h6
    rw [List.getElem?_set_self (by rw [fourB_len]; omega), List.getElem?_eq_getElem (by rw [fourB_len]; omega)] at e2
    exact hc (Option.some.inj e2)
end Go.Dio
