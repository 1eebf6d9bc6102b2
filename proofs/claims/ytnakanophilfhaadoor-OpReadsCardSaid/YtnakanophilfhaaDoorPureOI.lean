/- Layer 7, in plain lists: bytes that are read as an op are the beginning of what that op is written as. -/
import Derived.Test.YtnakanophilfhaaDoorPureO
import Derived.Test.YtnakanophilfhaaDoorPure3
namespace Go.Proofs.YtnakanophilfhaaDoor
open Go.RowKit Go.Dio
set_option linter.unusedVariables false
set_option linter.unusedSimpArgs false
theorem rUpto_inv {m k : Int} {s s' : Rst} (h : rUpto m s = (k, s')) (h0 : s'.2 = 0) : s.2 = 0 ∧ s.1 = numB k.toNat ++ s'.1 := by
  obtain ⟨xs, e⟩ := s
  by_cases he : e ≠ 0
  · rw [rUpto_err m (xs, e) he] at h
    cases h
    exact absurd h0 he
  · obtain rfl : e = 0 := by omega
    rcases hn : numL xs with ⟨n, kk, ee⟩
    obtain ⟨c1, c2, c3⟩ := rUpto_cases m xs n kk ee hn
    by_cases q1 : ee ≠ 0
    · rw [c1 q1] at h
      cases h
      simp only at h0
      omega
    · obtain rfl : ee = 0 := by omega
      by_cases q2 : m < (n : Int)
      · rw [c2 rfl q2] at h
        cases h
        cases h0
      · rw [c3 rfl (by omega)] at h
        cases h
        obtain ⟨e1, e2, e3⟩ := numL_inv xs n kk hn
        refine ⟨rfl, ?_⟩
        rw [Int.toNat_natCast, ← e1]
        exact (List.take_append_drop kk xs).symm
theorem rText_inv {t : List UInt8} {s s' : Rst} (h : rText s = (t, s')) (h0 : s'.2 = 0) : s.2 = 0 ∧ s.1 = textB t ++ s'.1 := by
  obtain ⟨xs, e⟩ := s
  by_cases he : e ≠ 0
  · rw [rText_err (xs, e) he] at h
    cases h
    exact absurd h0 he
  · obtain rfl : e = 0 := by omega
    rcases hn : numL xs with ⟨n, kk, ee⟩
    obtain ⟨c1, c2, c3, c4⟩ := rText_cases xs n kk ee hn
    by_cases q1 : ee ≠ 0
    · rw [c1 q1] at h
      cases h
      simp only at h0
      omega
    · obtain rfl : ee = 0 := by omega
      by_cases q2 : 1048576 < n
      · rw [c2 rfl q2] at h
        cases h
        cases h0
      · by_cases q3 : xs.length - kk < n
        · rw [c3 rfl (by omega) q3] at h
          cases h
          cases h0
        · rw [c4 rfl (by omega) (by omega)] at h
          cases h
          obtain ⟨e1, e2, e3⟩ := numL_inv xs n kk hn
          refine ⟨rfl, ?_⟩
          have el : ((xs.drop kk).take n).length = n := by rw [List.length_take, List.length_drop]; omega
          unfold textB
          rw [el, ← e1, List.append_assoc, ← List.drop_drop, List.take_append_drop, List.take_append_drop]
theorem tStamp_inv {t r : Int} {s s' : Rst} (h : tStamp s = ((t, r), s')) (h0 : s'.2 = 0) : s.2 = 0 ∧ s.1 = stB t r ++ s'.1 := by
  rcases h1 : rUpto 1099511627776 s with ⟨x, s1⟩
  rcases h2 : rUpto 15 s1 with ⟨y, s2⟩
  unfold tStamp at h
  simp only [h1, h2] at h
  split at h
  · rename_i hz
    cases h
    obtain ⟨a1, a2⟩ := rUpto_inv h2 hz
    obtain ⟨b1, b2⟩ := rUpto_inv h1 a1
    exact ⟨b1, by rw [b2, a2, stB, List.append_assoc]⟩
  · rename_i hz
    cases h
    exact absurd h0 hz
theorem rPath_inv : ∀ (n : Nat) {l : List (Int × Int)} {s s' : Rst}, rPath n s = (l, s') → s'.2 = 0 → s.2 = 0 ∧ s.1 = pathB l ++ s'.1
  | 0, l, s, s', h, h0 => by cases h; exact ⟨h0, rfl⟩
  | n + 1, l, s, s', h, h0 => by
    rcases h1 : tStamp s with ⟨⟨t, r⟩, s1⟩
    rcases h2 : rPath n s1 with ⟨l2, s2⟩
    simp only [rPath, h1, h2] at h
    cases h
    obtain ⟨a1, a2⟩ := rPath_inv n h2 h0
    obtain ⟨b1, b2⟩ := tStamp_inv h1 a1
    exact ⟨b1, by rw [b2, a2]; simp [pathB]⟩
theorem rFail_ne2 (s : Rst) : (rFail s 21).2 ≠ 0 := by
  unfold rFail
  split
  · simp
  · assumption
theorem zig_unzig {m : Int} (h : 0 ≤ m) : zig (unzig m) = m := by unfold unzig zig; split <;> split <;> omega
theorem tVal_inv {k n : Int} {t : ByteArray} {s s' : Rst} (h : tVal s = ((k, n, t), s')) (h0 : s'.2 = 0) : s.2 = 0 ∧ s.1 = vB k n t ++ s'.1 := by
  unfold tVal vLook at h
  split at h
  · rename_i hr
    split at h
    · rename_i hz
      have e1 : (vRead s).1 = (k, n, t) := congrArg Prod.fst h
      have e2 : (vRead s).2 = s' := congrArg Prod.snd h
      rw [e1] at hr
      clear h
      rcases h1 : rUpto 281474976710655 s with ⟨kk, s1⟩
      rcases h2 : rUpto 281474976710655 s1 with ⟨m, s2⟩
      rcases h3 : rText s1 with ⟨y, s3⟩
      have hrg : 0 ≤ m := by have := (rUpto_range s1 281474976710655 (by omega)).1; rw [h2] at this; exact this
      unfold vRead at e1 e2
      simp only [h1, h2, h3] at e1 e2
      split at e1
      · rename_i c
        rw [if_pos c] at e2
        simp only [Prod.mk.injEq] at e1
        obtain ⟨rfl, rfl, rfl⟩ := e1
        subst e2
        obtain ⟨a1, a2⟩ := rUpto_inv h2 h0
        obtain ⟨b1, b2⟩ := rUpto_inv h1 a1
        refine ⟨b1, ?_⟩
        unfold vB
        rw [if_pos c, zig_unzig hrg, b2, a2, List.append_assoc]
      · rename_i c
        rw [if_neg c] at e2
        split at e1
        · rename_i c4
          rw [if_pos c4] at e2
          simp only [Prod.mk.injEq] at e1
          obtain ⟨rfl, rfl, rfl⟩ := e1
          subst e2
          obtain ⟨a1, a2⟩ := rUpto_inv h2 h0
          obtain ⟨b1, b2⟩ := rUpto_inv h1 a1
          refine ⟨b1, ?_⟩
          unfold vB
          rw [if_neg (by omega), if_pos rfl, b2, a2, c4, List.append_assoc]
        · rename_i c4
          rw [if_neg c4] at e2
          split at e1
          · rename_i c3
            rw [if_pos c3] at e2
            simp only [Prod.mk.injEq] at e1
            obtain ⟨rfl, rfl, rfl⟩ := e1
            subst e2
            obtain ⟨a1, a2⟩ := rText_inv h3 h0
            obtain ⟨b1, b2⟩ := rUpto_inv h1 a1
            refine ⟨b1, ?_⟩
            unfold vB
            rw [if_neg (by omega), if_neg (by omega), if_pos rfl, mkS_toList, b2, a2, c3, List.append_assoc]
          · rename_i c3
            rw [if_neg c3] at e2
            simp only [Prod.mk.injEq] at e1
            obtain ⟨rfl, rfl, rfl⟩ := e1
            subst e2
            obtain ⟨b1, b2⟩ := rUpto_inv h1 h0
            refine ⟨b1, ?_⟩
            unfold vB
            rw [if_neg c, if_neg c4, if_neg c3, List.append_nil]
            exact b2
    · rename_i hz
      exact absurd h0 (by have e : (vRead s).2 = s' := congrArg Prod.snd h; rw [← e]; exact hz)
  · exact absurd h0 (by have e : rFail (vRead s).2 21 = s' := congrArg Prod.snd h; rw [← e]; exact rFail_ne2 _)
theorem opRead_inv {d : OpD} {s s' : Rst} (h : opRead s = (d, s')) (h0 : s'.2 = 0) : s.2 = 0 ∧ s.1 = opB d ++ s'.1 := by
  rcases hk : rUpto 281474976710655 s with ⟨k, s0⟩
  rcases hn : rdNode k s0 with ⟨⟨n1, n2⟩, s1⟩
  rcases hr : rdRef k s1 with ⟨⟨r1, r2⟩, s2⟩
  rcases hy : rdKey k s2 with ⟨y, s3⟩
  rcases hp : rdPath k s3 with ⟨path, s4⟩
  rcases hv : rdProp k s4 with ⟨⟨prop, vk, vn, vt⟩, s5⟩
  rcases ho : rdOn k s5 with ⟨on, s6⟩
  simp only [opRead, hk, hn, hr, hy, hp, hv, ho] at h
  cases h
  have z5 : s5.2 = 0 ∧ s5.1 = (if pOn k = true then numB (if on = true then 1 else 0) else []) ++ s'.1 := by
    unfold rdOn at ho
    split at ho
    · rename_i c
      rcases hq : rUpto 1 s5 with ⟨x, sa⟩
      have hrg := rUpto_range s5 1 (by omega)
      rw [hq] at ho hrg
      simp only [Prod.mk.injEq] at ho hrg
      obtain ⟨e1, rfl⟩ := ho
      obtain ⟨a1, a2⟩ := rUpto_inv hq h0
      refine ⟨a1, ?_⟩
      rw [if_pos c, a2]
      have : x.toNat = if on = true then 1 else 0 := by
        by_cases q : x = 1
        · subst q
          rw [← e1]; rfl
        · have hx : x = 0 := by omega
          subst hx
          rw [← e1]; rfl
      rw [this]
    · rename_i c
      cases ho
      rw [if_neg c]
      exact ⟨h0, rfl⟩
  have z4 : s4.2 = 0 ∧ s4.1 = (if pProp k = true then numB prop.toNat ++ vB vk vn vt else []) ++ s5.1 := by
    unfold rdProp at hv
    split at hv
    · rename_i c
      rw [if_pos c]
      rcases hq : rUpto 281474976710655 s4 with ⟨x, sa⟩
      rcases hq2 : tVal sa with ⟨⟨a, b, c'⟩, sb⟩
      rw [hq] at hv
      simp only [hq2] at hv
      simp only [Prod.mk.injEq] at hv
      obtain ⟨⟨rfl, rfl, rfl, rfl⟩, rfl⟩ := hv
      obtain ⟨a1, a2⟩ := tVal_inv hq2 z5.1
      obtain ⟨b1, b2⟩ := rUpto_inv hq a1
      exact ⟨b1, by rw [b2, a2, List.append_assoc]⟩
    · rename_i c
      rw [if_neg c]
      simp only [Prod.mk.injEq] at hv
      obtain ⟨_, rfl⟩ := hv
      exact ⟨z5.1, rfl⟩
  have z3 : s3.2 = 0 ∧ s3.1 = (if pPath k = true then numB path.length ++ pathB path else []) ++ s4.1 := by
    unfold rdPath at hp
    split at hp
    · rename_i c
      rw [if_pos c]
      rcases hq : rUpto 8 s3 with ⟨x, sa⟩
      have hrg := rUpto_range s3 8 (by omega)
      rw [hq] at hp hrg
      simp only at hp hrg
      obtain ⟨a1, a2⟩ := rPath_inv _ hp z4.1
      obtain ⟨b1, b2⟩ := rUpto_inv hq a1
      have hl : path.length = x.toNat := by have := rPath_len x.toNat sa; rw [hp] at this; exact this
      exact ⟨b1, by rw [b2, a2, hl, List.append_assoc]⟩
    · rename_i c
      rw [if_neg c]
      cases hp
      exact ⟨z4.1, rfl⟩
  have z2 : s2.2 = 0 ∧ s2.1 = (if pKey k = true then textB y else []) ++ s3.1 := by
    unfold rdKey at hy
    split at hy
    · rename_i c
      rw [if_pos c]
      exact rText_inv hy z3.1
    · rename_i c
      rw [if_neg c]
      cases hy
      exact ⟨z3.1, rfl⟩
  have z1 : s1.2 = 0 ∧ s1.1 = (if pRef k = true then stB r1 r2 else []) ++ s2.1 := by
    unfold rdRef at hr
    split at hr
    · rename_i c
      rw [if_pos c]
      exact tStamp_inv hr z2.1
    · rename_i c
      rw [if_neg c]
      simp only [Prod.mk.injEq] at hr
      obtain ⟨_, rfl⟩ := hr
      exact ⟨z2.1, rfl⟩
  have z0 : s0.2 = 0 ∧ s0.1 = (if pNode k = true then stB n1 n2 else []) ++ s1.1 := by
    unfold rdNode at hn
    split at hn
    · rename_i c
      rw [if_pos c]
      exact tStamp_inv hn z1.1
    · rename_i c
      rw [if_neg c]
      simp only [Prod.mk.injEq] at hn
      obtain ⟨_, rfl⟩ := hn
      exact ⟨z1.1, rfl⟩
  obtain ⟨b1, b2⟩ := rUpto_inv hk z0.1
  refine ⟨b1, ?_⟩
  rw [b2, z0.2, z1.2, z2.2, z3.2, z4.2, z5.2]
  simp only [opB, mkS_toList, List.append_assoc]
/-- What is read as an op: it may be, and its bytes come first; else it is the op of nothing. -/
theorem tOp_inv {d : OpD} {s s' : Rst} (h : tOp s = (d, s')) : (s'.2 = 0 → oright d = true ∧ s.2 = 0 ∧ s.1 = opB d ++ s'.1) ∧ (s'.2 ≠ 0 → d = opNil) := by
  unfold tOp opLook at h
  split at h
  · rename_i hr
    split at h
    · rename_i hz
      have e1 : (opRead s).1 = d := congrArg Prod.fst h
      have e2 : (opRead s).2 = s' := congrArg Prod.snd h
      refine ⟨fun h0 => ?_, fun hne => absurd (by rw [← e2]; exact hz) hne⟩
      rw [e1] at hr
      exact ⟨hr, opRead_inv (Prod.ext e1 e2) h0⟩
    · rename_i hz
      have e1 : opNil = d := congrArg Prod.fst h
      have e2 : (opRead s).2 = s' := congrArg Prod.snd h
      exact ⟨fun h0 => absurd (by rw [e2]; exact h0) hz, fun _ => e1.symm⟩
  · have e1 : opNil = d := congrArg Prod.fst h
    have e2 : rFail (opRead s).2 21 = s' := congrArg Prod.snd h
    exact ⟨fun h0 => absurd h0 (by rw [← e2]; exact rFail_ne2 _), fun _ => e1.symm⟩
end Go.Proofs.YtnakanophilfhaaDoor
