/- The library's functions on slices of bytes: Clone, Equal, Grow (of nil), Concat. -/
import Derived.Test.YtcociocgoiofgaaRows
import Derived.Test.YtcociocgoiofgaaK
import Derived.Lib.AppendZerosOnto
namespace Go.Proofs.Ytcociocgoiofgaa
open Go.RowKit Go.Dio
set_option linter.unusedVariables false
set_option linter.unusedSimpArgs false

theorem info_u8 : (Try.prog.info? 5).map (fun i => (i.zero, i.size, i.bytes)) = some (some (.int .u8 0), 1, 1) := by kernel_rfl

set_option maxHeartbeats 1000000 in
theorem clone_any (A : Option Addr) (n c : Nat) (xs : List UInt8) (w : World) (h : IsB w A n c xs) (hn : n ≤ 140737488355328) :
    Calls Try.prog 100 #[.slice A n c] w (OutB 5 w xs) := by
  rcases A with _ | ad
  · have hx : xs = [] := by
      rcases Nat.eq_zero_or_pos n with h0 | h0
      · exact List.eq_nil_of_length_eq_zero (by rw [h.len, h0])
      · obtain ⟨b, o, e, _⟩ := h.some h0; cases e
    have hn0 : n = 0 := by rw [← h.len, hx]; rfl
    have hcc := h.max
    subst hx hn0
    clear h
    have hnil := run_eqnil (P := Try.prog) 22 5 Try.underlying22
    go_enter Try.func100, Try.ntmps100
    go_wp2
    go_ret
    exact ⟨_, rfl, OwnB.nil _ _ _, Below.refl _ _⟩
  · have hnil := run_eqnil (P := Try.prog) 22 5 Try.underlying22
    have hl := hid h.len
    go_enter Try.func100, Try.ntmps100
    go_wp2_with (at_builtin; refine wpList_append_b (w0 := w) w.heap.size rfl _ _ 22 5 rfl Try.underlying22 info_u8 _ n [] xs (some ad) c rfl rfl ?c1 ?c2 ?c3 ?c4 ?c5 ?_)
    case c1 => exact OwnB.lit _ w _ [] (Nat.le_refl _) (by simp)
    case c2 => exact h.below ((Below.refl _ _).alloc (Nat.le_refl _) _)
    case c3 => exact (Below.refl _ _).alloc (Nat.le_refl _) _
    case c4 => simp
    case c5 => simpa using hn
    intro v1 w1 ho hb hg hat
    clear hg hat
    go_wp2
    go_ret
    exact ⟨v1, rfl, ho, hb⟩

theorem getD_beq (xs ys : List UInt8) (i : Nat) (hx : i < xs.length) (hy : i < ys.length) : xs[i]? = ys[i]? ↔ gb xs i = gb ys i := by
  simp only [gb, List.getD_eq_getElem?_getD, List.getElem?_eq_getElem hx, List.getElem?_eq_getElem hy, Option.getD_some, Option.some.injEq]
  exact ⟨fun h => by rw [h], fun h => UInt8.toNat_inj.1 (by omega)⟩

set_option maxHeartbeats 1000000 in
theorem equal_any (A B : Option Addr) (n c m d : Nat) (xs ys : List UInt8) (w : World) (hx : IsB w A n c xs) (hy : IsB w B m d ys) :
    Calls Try.prog 98 #[.slice A n c, .slice B m d] w fun e w' => e = .returned (.bool (decide (xs = ys))) ∧ Drawn w w' := by
  by_cases hnm : n = m
  · subst hnm
    have hb1 : ((n : Int) == (n : Int)) = true := by simp
    have hb2 : ((n : Int) != (n : Int)) = false := by simp
    have hlx := hid hx.len
    have hly := hid hy.len
    have hc := hx.cap; have hm := hx.max
    have HX := hid hx.some
    have HY := hid hy.some
    clear hx hy
    go_enter Try.func98, Try.ntmps98
    go_wp2
    go_loopg [5, 13] n (fun g v5 v13 w' => ∃ i : Nat, i ≤ n ∧ v13 = .int .i64 i ∧ Hid (g = n - i) ∧ Hid (∀ j, j < i → xs[j]? = ys[j]?) ∧ Drawn w w')
    case atStart => exact ⟨0, by omega, rfl, hid rfl, hid (fun j hj => absurd hj (by omega)), Drawn.refl w⟩
    case round =>
      obtain ⟨i, hi, rfl, hgk, heq, ⟨m1, rfl⟩⟩ := hrel
      by_cases hlt : i < n
      · obtain ⟨k1, rfl⟩ : ∃ k1, gk = k1 + 1 := ⟨gk - 1, by have := hgk.out; omega⟩
        obtain ⟨b, o, rfl, hcx⟩ := HX.out (by omega)
        obtain ⟨b', o', rfl, hcy⟩ := HY.out (by omega)
        have hcx1 := hcx i hlt
        have hcy1 := hcy i hlt
        clear hcx hcy
        have hq := getD_beq xs ys i (by rw [hlx.out]; exact hlt) (by rw [hly.out]; exact hlt)
        generalize gb xs i = p at *
        generalize gb ys i = q at *
        by_cases hpq : p = q
        · have hp1 : (p == q) = true := by simp [hpq]
          have hp2 : (p != q) = false := by simp [hpq]
          have HQ := hid (hq.2 hpq)
          clear hq hpq
          go_wp2
          repeat (go_quiet (fail); try go_wp2)
          go_roundg k1
          case measure => omega
          case rel =>
            refine ⟨i + 1, by omega, by go_num, hid (by have := hgk.out; omega), hid (fun j hj => ?_), by repeat (first | exact Drawn.refl _ | apply Drawn.step)⟩
            by_cases hji : j = i
            · subst hji; exact HQ.out
            · exact heq.out j (by omega)
        · have hp1 : (p == q) = false := by simp [hpq]
          have hp2 : (p != q) = true := by simp [hpq]
          have HQ := hid (fun e => hpq (hq.1 e))
          clear hq hpq
          go_wp2
          repeat (go_quiet (fail); try go_wp2)
          go_ret
          exact ⟨ret_bool (decide_eq_false (fun e => HQ.out (by rw [e]))).symm, by repeat (first | exact Drawn.refl _ | apply Drawn.step)⟩
      · go_wp2
        go_ret
        refine ⟨ret_bool (decide_eq_true ?_).symm, by repeat (first | exact Drawn.refl _ | apply Drawn.step)⟩
        refine List.ext_getElem? fun j => ?_
        by_cases hj : j < n
        · exact heq.out j (by omega)
        · rw [List.getElem?_eq_none (by rw [hlx.out]; omega), List.getElem?_eq_none (by rw [hly.out]; omega)]
  · have hb1 : ((n : Int) == (m : Int)) = false := by simp; omega
    have hb2 : ((n : Int) != (m : Int)) = true := by rw [bne_iff_ne]; omega
    have hne := hid (show ¬ xs = ys from fun e => hnm (by rw [← hx.len, ← hy.len, e]))
    have h1 := hx.cap; have h2 := hx.max; have h3 := hy.cap; have h4 := hy.max
    clear hx hy hnm
    go_enter Try.func98, Try.ntmps98
    go_wp2
    go_ret
    exact ⟨ret_bool (decide_eq_false hne.out).symm, Drawn.refl w⟩

def EqOut (w : World) (p : Prop) [Decidable p] (e : Ending) (w' : World) : Prop := ∃ r, e = .returned (.bool r) ∧ Hid (r = decide p) ∧ Drawn w w'
theorem equal_r (A B : Option Addr) (n c m d : Nat) (xs ys : List UInt8) (w : World) (hx : IsB w A n c xs) (hy : IsB w B m d ys) :
    Calls Try.prog 98 #[.slice A n c, .slice B m d] w (EqOut w (xs = ys)) :=
  (equal_any A B n c m d xs ys w hx hy).mono fun _ _ ⟨h1, h2⟩ => ⟨_, h1, hid rfl, h2⟩

set_option maxRecDepth 100000 in
/-- 'slices.Grow(nil, k)': room, and nothing in it. -/
theorem grow_nil (k : Nat) (w : World) (hk : k ≤ 70368744177664) :
    Calls Try.prog 139 #[.slice none 0 0, .int .i64 k] w (OutB 5 w []) := by
  rcases Nat.eq_zero_or_pos k with h0 | h0
  · subst h0
    go_enter Try.func139, Try.ntmps139
    go_wp2
    go_ret
    exact ⟨_, rfl, OwnB.nil _ _ _, Below.refl _ _⟩
  · have hkk : ¬ (k : Int) ≤ 0 := by omega
    go_enter Try.func139, Try.ntmps139
    go_wp2_with (at_builtin; refine wpList_append_zeros rfl _ _ 22 3 5 rfl Try.underlying22 Try.underlying3 info_u8 k rfl rfl h0 hk ?_)
    intro c cur hcs hkc hcm
    have hc0 : 0 < c := by omega
    have hc1 : ¬ c = 0 := by omega
    have HCS := hid hcs; clear hcs
    go_wp2
    go_ret
    refine ⟨_, rfl, World.ownsRow_made (e := 5) (size := 1) w.drew cur c (Nat.le_refl _) hcm (by rw [HCS.out]; omega), ((Below.refl _ _).drew).alloc (Nat.le_refl _) _⟩

theorem flat_drop (xss : List (List UInt8)) (i : Nat) (h : i < xss.length) : (xss.drop i).flatten = xss.getD i [] ++ (xss.drop (i + 1)).flatten := by
  rw [List.drop_eq_getElem_cons h, List.flatten_cons, List.getD_eq_getElem?_getD, List.getElem?_eq_getElem h, Option.getD_some]

set_option maxRecDepth 100000 in
set_option maxHeartbeats 1000000 in
theorem concat_any (A : Option Addr) (n c : Nat) (xss : List (List UInt8)) (w : World) (h : IsBB w A n c xss) (hs : xss.flatten.length ≤ 70368744177664) :
    Calls Try.prog 102 #[.slice A n c] w (OutB 5 w xss.flatten) := by
  have hl := hid h.len
  have hc := h.cap
  have hm := h.max
  have HB := hid h
  have HS := hid h.get
  clear h
  go_enter Try.func102, Try.ntmps102
  go_wp2_with fail
  go_loop [3, 5, 11] (fun v3 v5 v11 => ∃ i s : Nat, i ≤ n ∧ s ≤ 70368744177664 ∧ v11 = .int .i64 i ∧ v3 = .int .i64 s ∧ Hid (s + (xss.drop i).flatten.length = xss.flatten.length)) (fun _ _ v11 => n - (intOf v11).toNat)
  case atStart => exact ⟨0, 0, by omega, by omega, rfl, rfl, hid (by simp)⟩
  case round =>
    obtain ⟨i, s, hi, hs1, rfl, rfl, hrel⟩ := hrel
    by_cases hlt : i < n
    · obtain ⟨b, o, A', n', c', rfl, hcell, hb⟩ := HS.out i hlt
      have hfl := flat_drop xss i (by rw [hl.out]; exact hlt)
      have hbl := hb.len
      have hn' : s + n' ≤ 70368744177664 := by
        have := hrel.out; rw [hfl, List.length_append, hbl] at this; omega
      have HF := hid hfl; clear hfl
      have HBL := hid hbl; clear hbl hb
      have hge : ¬ ((s : Int) + n' < 0) := by omega
      go_wp2_with fail
      go_round
      case rel => exact ⟨i + 1, s + n', by omega, hn', by go_num, by go_num, hid (by have := hrel.out; rw [HF.out, List.length_append, HBL.out] at this; omega)⟩
      case measure => simp [intOf]; omega
    · have hsl : s = xss.flatten.length := by
        have := hrel.out; rw [List.drop_of_length_le (by rw [hl.out]; omega)] at this; simpa using this
      have HSL := hid hsl
      clear hsl hrel
      go_wp2_with (go_at_call 139; refine (grow_nil s _ hs1).mono ?_)
      rintro e w1 ⟨v1, rfl, ho, hb⟩
      go_wp2_with fail
      clear hs1
      go_loopw [6, 8, 27] (fun v6 v8 v27 wr => ∃ (j : Nat) (acc : List UInt8), j ≤ n ∧ v27 = .int .i64 j ∧ OwnB 5 wr w.heap.size v6 acc ∧ Below w.heap.size w wr ∧ Hid (acc ++ (xss.drop j).flatten = xss.flatten)) (fun _ _ v27 _ => n - (intOf v27).toNat)
      case atStart => exact ⟨0, [], by omega, rfl, ho, hb, hid (by simp)⟩
      case round =>
        clear ho hb
        obtain ⟨j, acc, hj, rfl, ho, hb, hrel⟩ := hrel
        by_cases hlt : j < n
        · obtain ⟨b, o, A', n', c', rfl, hcell, hbb⟩ := (HB.out.below hb).get j hlt
          have hfl := flat_drop xss j (by rw [hl.out]; exact hlt)
          have hlen : acc.length + n' ≤ 140737488355328 := by
            have := hrel.out; rw [hfl] at this
            have := congrArg List.length this
            have h3 := hbb.len
            simp only [List.length_append] at this
            omega
          have HF := hid hfl; clear hfl
          have hsz := hb.size
          go_wp2_with (at_builtin; go_loud (refine wpList_append_b (w0 := w) w.heap.size rfl _ _ 22 5 rfl Try.underlying22 info_u8 _ n' acc (xss.getD j []) A' c' rfl rfl ho hbb hb hsz hlen ?_))
          intro v2 w2 ho2 hb2 hg hat
          clear hg hat
          go_wp2
          go_roundw
          case rel => exact ⟨j + 1, acc ++ xss.getD j [], by omega, by go_num, ho2, hb2, hid (by rw [List.append_assoc, ← HF.out]; exact hrel.out)⟩
          case measure => simp [intOf]; omega
        · have he : acc = xss.flatten := by
            have := hrel.out; rw [List.drop_of_length_le (by rw [hl.out]; omega)] at this; simpa using this
          have HE := hid he
          clear he
          go_wp2
          go_ret
          exact ⟨_, rfl, by rw [← HE.out]; exact ho, hb⟩
end Go.Proofs.Ytcociocgoiofgaa
