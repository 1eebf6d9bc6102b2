/- wire, in plain numbers and lists: sums, numbers, frames. -/
import Derived.Test.YtnakanophilfhaaDoorK
set_option linter.unusedVariables false
set_option linter.unusedSimpArgs false
namespace Go.Dio

def crcBit (r : Nat) : Nat := if r % 2 = 1 then (r / 2) ^^^ 3988292384 else r / 2
def crcBits : Nat → Nat → Nat
  | 0, r => r
  | k + 1, r => crcBits k (crcBit r)
def crcByte (r : Nat) (c : UInt8) : Nat := crcBits 8 (r ^^^ c.toNat)
def crcR (r : Nat) (xs : List UInt8) : Nat := xs.foldl crcByte r
/-- The sum of bytes. -/
def crc (xs : List UInt8) : Nat := 4294967295 - crcR 4294967295 xs

theorem xor_lt32 {a b : Nat} (ha : a < 4294967296) (hb : b < 4294967296) : a ^^^ b < 4294967296 := Nat.xor_lt_two_pow (n := 32) ha hb
theorem crcBit_lt {r : Nat} (h : r < 4294967296) : crcBit r < 4294967296 := by
  unfold crcBit
  split
  · exact xor_lt32 (by omega) (by omega)
  · omega
theorem crcBits_lt (k : Nat) : ∀ {r : Nat}, r < 4294967296 → crcBits k r < 4294967296 := by
  induction k with
  | zero => exact fun h => h
  | succ k ih => exact fun h => ih (crcBit_lt h)
theorem crcByte_lt {r : Nat} (c : UInt8) (h : r < 4294967296) : crcByte r c < 4294967296 := crcBits_lt 8 (xor_lt32 h (by have := c.toNat_lt; omega))
theorem crcR_lt (xs : List UInt8) : ∀ {r : Nat}, r < 4294967296 → crcR r xs < 4294967296 := by
  induction xs with
  | nil => exact fun h => h
  | cons c xs ih => exact fun h => ih (crcByte_lt c h)
theorem crc_lt (xs : List UInt8) : crc xs < 4294967296 := by unfold crc; omega
theorem crcR_drop (xs : List UInt8) (i : Nat) (h : i < xs.length) (r : Nat) : crcR r (xs.drop i) = crcR (crcBits 8 (r ^^^ (gb xs i).toNat)) (xs.drop (i + 1)) := by
  rw [List.drop_eq_getElem_cons h]
  simp only [crcR, List.foldl_cons, crcByte, gb, List.getD_eq_getElem?_getD, List.getElem?_eq_getElem h, Option.getD_some, Int.toNat_natCast]

/-- A number from its bytes. -/
def be (xs : List UInt8) : Nat := xs.foldl (fun n c => n * 256 + c.toNat) 0
theorem be_snoc (xs : List UInt8) (c : UInt8) : be (xs ++ [c]) = be xs * 256 + c.toNat := by simp [be]
theorem be_lt (xs : List UInt8) : be xs < 256 ^ xs.length := by
  suffices h : ∀ (l : List UInt8) (a m : Nat), a < 256 ^ m → l.foldl (fun n c => n * 256 + c.toNat) a < 256 ^ (m + l.length) from by
    have := h xs 0 0 (by simp)
    simpa [be] using this
  intro l
  induction l with
  | nil => intro a m h; simpa using h
  | cons c l ih =>
    intro a m h
    have hc := c.toNat_lt
    have := ih (a * 256 + c.toNat) (m + 1) (by rw [Nat.pow_succ]; omega)
    simpa [Nat.add_assoc, Nat.add_comm 1] using this
theorem be_take (l : List UInt8) (i : Nat) (h : i < l.length) : (be (l.take (i + 1)) : Int) = be (l.take i) * 256 + gb l i := by
  rw [List.take_succ_eq_append_getElem h, be_snoc]; simp [gb, h]

/-- What a number at the beginning tells: it, how many bytes, an error. -/
def numL : List UInt8 → Nat × Nat × Nat
  | [] => (0, 0, 20)
  | k :: t =>
    if 6 < k.toNat then (0, 0, 21)
    else if 0 < k.toNat ∧ t.head? = some 0 then (0, 0, 21)
    else if t.length < k.toNat then (0, 0, 20)
    else (be (t.take k.toNat), k.toNat + 1, 0)

/-- The cases of 'numL', by lengths and bytes. -/
theorem numL_cases (xs : List UInt8) (h : 0 < xs.length) :
    (6 < gb xs 0 → numL xs = (0, 0, 21)) ∧ (gb xs 0 = 0 → numL xs = (0, 1, 0)) ∧ (0 < gb xs 0 → gb xs 0 ≤ 6 → xs.length = 1 → numL xs = (0, 0, 20)) ∧
    (0 < gb xs 0 → gb xs 0 ≤ 6 → 1 < xs.length → gb xs 1 = 0 → numL xs = (0, 0, 21)) ∧
    (0 < gb xs 0 → gb xs 0 ≤ 6 → 1 < xs.length → gb xs 1 ≠ 0 → (xs.length : Int) < gb xs 0 + 1 → numL xs = (0, 0, 20)) ∧
    (0 < gb xs 0 → gb xs 0 ≤ 6 → 1 < xs.length → gb xs 1 ≠ 0 → gb xs 0 + 1 ≤ (xs.length : Int) → numL xs = (be ((xs.drop 1).take (gb xs 0).toNat), (gb xs 0).toNat + 1, 0)) := by
  rcases xs with _ | ⟨k, t⟩
  · simp at h
  rcases t with _ | ⟨y, t⟩
  · simp only [gb, numL, List.getD_cons_zero]
    refine ⟨fun h => ?_, fun h => ?_, fun h h' _ => ?_, ?_, ?_, ?_⟩
    · rw [if_pos (by omega)]
    · have : k.toNat = 0 := by omega
      simp [this, be]
    · rw [if_neg (by omega)]; simp; omega
    all_goals simp
  · have hz : y.toNat = 0 ↔ y = 0 := ⟨fun h => UInt8.toNat_inj.1 (by simpa using h), fun h => by subst h; rfl⟩
    simp only [gb, numL, List.getD_cons_zero, List.getD_cons_succ, List.head?_cons, Option.some.injEq, List.length_cons, List.drop_succ_cons, List.drop_zero, Int.toNat_natCast]
    refine ⟨fun h => ?_, fun h => ?_, by intros; omega, fun h h' _ h3 => ?_, fun h h' _ h3 h4 => ?_, fun h h' _ h3 h4 => ?_⟩
    · rw [if_pos (by omega)]
    · have : k.toNat = 0 := by omega
      simp [this, be]
    · have := hz.1 (by omega)
      rw [if_neg (by omega), if_pos ⟨by omega, this⟩]
    · rw [if_neg (by omega), if_neg (fun q => h3 (by have := hz.2 q.2; omega)), if_pos (by omega)]
    · rw [if_neg (by omega), if_neg (fun q => h3 (by have := hz.2 q.2; omega)), if_neg (by omega)]

/-- A number's bytes, the greatest first, without zeros ahead. -/
def encN (n : Nat) : List UInt8 := if h : n = 0 then [] else encN (n / 256) ++ [UInt8.ofNat (n % 256)]
  termination_by n
  decreasing_by omega
theorem encN_zero : encN 0 = [] := by unfold encN; simp
theorem encN_pos (n : Nat) (h : n ≠ 0) : encN n = encN (n / 256) ++ [UInt8.ofNat (n % 256)] := by rw [encN]; simp [h]
theorem encN_len (k : Nat) : ∀ n, n < 256 ^ k → (encN n).length ≤ k := by
  induction k with
  | zero => intro n h; have : n = 0 := by simpa using h
            subst this; rw [encN_zero]; simp
  | succ k ih =>
    intro n h
    by_cases h0 : n = 0
    · subst h0; rw [encN_zero]; simp
    · rw [encN_pos n h0, List.length_append]
      have := ih (n / 256) (by rw [Nat.pow_succ] at h; omega)
      simp; omega
theorem be_encN (n : Nat) : be (encN n) = n := by
  induction n using Nat.strongRecOn with
  | _ n ih =>
    by_cases h0 : n = 0
    · subst h0; rw [encN_zero]; rfl
    · rw [encN_pos n h0, be_snoc, ih (n / 256) (by omega), UInt8.toNat_ofNat']
      omega
theorem encN_head (n : Nat) (h : n ≠ 0) : ∃ c t, encN n = c :: t ∧ c ≠ 0 := by
  induction n using Nat.strongRecOn with
  | _ n ih =>
    rw [encN_pos n h]
    by_cases h1 : n / 256 = 0
    · rw [h1, encN_zero]
      refine ⟨UInt8.ofNat (n % 256), [], rfl, fun e => ?_⟩
      have := congrArg UInt8.toNat e
      rw [UInt8.toNat_ofNat'] at this
      simp at this; omega
    · obtain ⟨c, t, e, hc⟩ := ih (n / 256) (by omega) h1
      exact ⟨c, t ++ [UInt8.ofNat (n % 256)], by rw [e]; rfl, hc⟩
/-- A number as bytes. -/
def numB (n : Nat) : List UInt8 := UInt8.ofNat (encN n).length :: encN n
theorem numB_len (n : Nat) (h : n < 281474976710656) : (numB n).length ≤ 7 := by
  have := encN_len 6 n (by simpa using h); simp [numB]; omega
theorem numB_pos (n : Nat) : 0 < (numB n).length := by simp [numB]
/-- What was written is read. -/
theorem numL_numB (n : Nat) (h : n < 281474976710656) (t : List UInt8) : numL (numB n ++ t) = (n, (numB n).length, 0) := by
  have hl := encN_len 6 n (by simpa using h)
  have ht : (UInt8.ofNat (encN n).length).toNat = (encN n).length := by rw [UInt8.toNat_ofNat']; omega
  simp only [numB, List.cons_append, numL, ht, List.length_append, List.length_cons]
  rw [if_neg (by omega)]
  rw [if_neg, if_neg (by omega), List.take_left', be_encN]
  · rfl
  · rintro ⟨h1, h2⟩
    by_cases h0 : n = 0
    · subst h0; rw [encN_zero] at h1; simp at h1
    · obtain ⟨c, r, e, hc⟩ := encN_head n h0
      rw [e] at h2; simp at h2; exact hc h2

/-- A text as bytes. -/
def textB (s : List UInt8) : List UInt8 := numB s.length ++ s
/-- Four bytes of a number. -/
def fourB (n : Nat) : List UInt8 := [UInt8.ofNat (n / 16777216), UInt8.ofNat (n / 65536), UInt8.ofNat (n / 256), UInt8.ofNat n]
/-- A frame. -/
def frameB (b : List UInt8) : List UInt8 := 93 :: (numB b.length ++ b ++ fourB (crc b))
/-- What bytes tell as a frame: its content, how many bytes, an error. -/
def unfL (b : List UInt8) : List UInt8 × Nat × Nat :=
  match b with
  | [] => ([], 0, 20)
  | c :: t =>
    if c ≠ 93 then ([], 0, 21)
    else
      let (n, k, e) := numL t
      if e ≠ 0 then ([], 0, e)
      else if 1048576 < n then ([], 0, 21)
      else if (t.drop k).length < n + 4 then ([], 0, 20)
      else if fourB (crc ((t.drop k).take n)) ≠ ((t.drop k).drop n).take 4 then ([], 0, 22)
      else ((t.drop k).take n, 1 + k + n + 4, 0)
end Go.Dio
