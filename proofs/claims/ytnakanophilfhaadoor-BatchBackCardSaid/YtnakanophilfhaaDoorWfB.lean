/- wire: frames, whole. -/
import Derived.Test.YtnakanophilfhaaDoorWbA
import Derived.Test.YtnakanophilfhaaDoorWire2
import Derived.Test.YtnakanophilfhaaDoorReg
import Derived.Deep.RegionWith
import Derived.Lib.AppendZerosOnto
namespace Go.Proofs.YtnakanophilfhaaDoor
open Go.RowKit Go.Dio
set_option linter.unusedVariables false
set_option linter.unusedSimpArgs false

theorem getD_beq (xs ys : List UInt8) (i : Nat) (hx : i < xs.length) (hy : i < ys.length) : xs[i]? = ys[i]? ↔ gb xs i = gb ys i := by
  simp only [gb, List.getD_eq_getElem?_getD, List.getElem?_eq_getElem hx, List.getElem?_eq_getElem hy, Option.getD_some, Option.some.injEq]
  exact ⟨fun h => by rw [h], fun h => UInt8.toNat_inj.1 (by omega)⟩

set_option maxHeartbeats 1000000 in
theorem equal_any (A B : Option Addr) (n c m d : Nat) (xs ys : List UInt8) (w : World) (hx : IsB w A n c xs) (hy : IsB w B m d ys) :
    Calls Tryd.prog 102 #[.slice A n c, .slice B m d] w fun e w' => e = .returned (.bool (decide (xs = ys))) ∧ Drawn w w' := by
  by_cases hnm : n = m
  · subst hnm
    have hb1 : ((n : Int) == (n : Int)) = true := by simp
    have hb2 : ((n : Int) != (n : Int)) = false := by simp
    have hlx := hid hx.len
    have hly := hid hy.len
    have hc := hx.cap; have hm := hx.max
    have HX := hid hx.some
    have HY := hid hy.some
    clear hx hy
    go_enter Tryd.func102, Tryd.ntmps102
    go_wp2
    go_loopg [5, 13] n (fun g v5 v13 w' => ∃ i : Nat, i ≤ n ∧ v13 = .int .i64 i ∧ Hid (g = n - i) ∧ Hid (∀ j, j < i → xs[j]? = ys[j]?) ∧ Drawn w w')
    case atStart => exact ⟨0, by omega, rfl, hid rfl, hid (fun j hj => absurd hj (by omega)), Drawn.refl w⟩
    case round =>
      obtain ⟨i, hi, rfl, hgk, heq, ⟨m1, rfl⟩⟩ := hrel
      by_cases hlt : i < n
      · obtain ⟨k1, rfl⟩ : ∃ k1, gk = k1 + 1 := ⟨gk - 1, by have := hgk.out; omega⟩
        obtain ⟨b, o, rfl, hcx⟩ := HX.out (by omega)
        obtain ⟨b', o', rfl, hcy⟩ := HY.out (by omega)
        have hcx1 := hcx i hlt
        have hcy1 := hcy i hlt
        clear hcx hcy
        have hq := getD_beq xs ys i (by rw [hlx.out]; exact hlt) (by rw [hly.out]; exact hlt)
        generalize gb xs i = p at *
        generalize gb ys i = q at *
        by_cases hpq : p = q
        · have hp1 : (p == q) = true := by simp [hpq]
          have hp2 : (p != q) = false := by simp [hpq]
          have HQ := hid (hq.2 hpq)
          clear hq hpq
          go_wp2
          repeat (go_quiet (fail); try go_wp2)
          go_roundg k1
          case measure => omega
          case rel =>
            refine ⟨i + 1, by omega, by go_num, hid (by have := hgk.out; omega), hid (fun j hj => ?_), by repeat (first | exact Drawn.refl _ | apply Drawn.step)⟩
            by_cases hji : j = i
            · subst hji; exact HQ.out
            · exact heq.out j (by omega)
        · have hp1 : (p == q) = false := by simp [hpq]
          have hp2 : (p != q) = true := by simp [hpq]
          have HQ := hid (fun e => hpq (hq.1 e))
          clear hq hpq
          go_wp2
          repeat (go_quiet (fail); try go_wp2)
          go_ret
          exact ⟨ret_bool (decide_eq_false (fun e => HQ.out (by rw [e]))).symm, by repeat (first | exact Drawn.refl _ | apply Drawn.step)⟩
      · go_wp2
        go_ret
        refine ⟨ret_bool (decide_eq_true ?_).symm, by repeat (first | exact Drawn.refl _ | apply Drawn.step)⟩
        refine List.ext_getElem? fun j => ?_
        by_cases hj : j < n
        · exact heq.out j (by omega)
        · rw [List.getElem?_eq_none (by rw [hlx.out]; omega), List.getElem?_eq_none (by rw [hly.out]; omega)]
  · have hb1 : ((n : Int) == (m : Int)) = false := by simp; omega
    have hb2 : ((n : Int) != (m : Int)) = true := by rw [bne_iff_ne]; omega
    have hne := hid (show ¬ xs = ys from fun e => hnm (by rw [← hx.len, ← hy.len, e]))
    have h1 := hx.cap; have h2 := hx.max; have h3 := hy.cap; have h4 := hy.max
    clear hx hy hnm
    go_enter Tryd.func102, Tryd.ntmps102
    go_wp2
    go_ret
    exact ⟨ret_bool (decide_eq_false hne.out).symm, Drawn.refl w⟩

def EqOut (w : World) (p : Prop) [Decidable p] (e : Ending) (w' : World) : Prop := ∃ r, e = .returned (.bool r) ∧ Hid (r = decide p) ∧ Drawn w w'
theorem equal_r (A B : Option Addr) (n c m d : Nat) (xs ys : List UInt8) (w : World) (hx : IsB w A n c xs) (hy : IsB w B m d ys) :
    Calls Tryd.prog 102 #[.slice A n c, .slice B m d] w (EqOut w (xs = ys)) :=
  (equal_any A B n c m d xs ys w hx hy).mono fun _ _ ⟨h1, h2⟩ => ⟨_, h1, hid rfl, h2⟩

set_option maxRecDepth 100000 in
/-- 'slices.Grow(nil, k)': room, and nothing in it. -/
theorem grow_nil (k : Nat) (w : World) (hk : k ≤ 70368744177664) :
    Calls Tryd.prog 105 #[.slice none 0 0, .int .i64 k] w (OutB 5 w []) := by
  rcases Nat.eq_zero_or_pos k with h0 | h0
  · subst h0
    go_enter Tryd.func105, Tryd.ntmps105
    go_wp2
    go_ret
    exact ⟨_, rfl, OwnB.nil _ _ _, Below.refl _ _⟩
  · have hkk : ¬ (k : Int) ≤ 0 := by omega
    go_enter Tryd.func105, Tryd.ntmps105
    go_wp2_with (at_builtin; refine wpList_append_zeros rfl _ _ 31 3 5 rfl Tryd.underlying31 Tryd.underlying3 info_u8 k rfl rfl h0 hk ?_)
    intro c cur hcs hkc hcm
    have hc0 : 0 < c := by omega
    have hc1 : ¬ c = 0 := by omega
    have HCS := hid hcs; clear hcs
    go_wp2
    go_ret
    refine ⟨_, rfl, World.ownsRow_made (e := 5) (size := 1) w.drew cur c (Nat.le_refl _) hcm (by rw [HCS.out]; omega), ((Below.refl _ _).drew).alloc (Nat.le_refl _) _⟩

theorem flat_drop (xss : List (List UInt8)) (i : Nat) (h : i < xss.length) : (xss.drop i).flatten = xss.getD i [] ++ (xss.drop (i + 1)).flatten := by
  rw [List.drop_eq_getElem_cons h, List.flatten_cons, List.getD_eq_getElem?_getD, List.getElem?_eq_getElem h, Option.getD_some]

set_option maxRecDepth 100000 in
set_option maxHeartbeats 1000000 in
theorem concat_any (A : Option Addr) (n c : Nat) (xss : List (List UInt8)) (w : World) (h : IsBB w A n c xss) (hs : xss.flatten.length ≤ 70368744177664) :
    Calls Tryd.prog 98 #[.slice A n c] w (OutB 5 w xss.flatten) := by
  have hl := hid h.len
  have hc := h.cap
  have hm := h.max
  have HB := hid h
  have HS := hid h.get
  clear h
  go_enter Tryd.func98, Tryd.ntmps98
  go_wp2_with fail
  go_loop [3, 5, 11] (fun v3 v5 v11 => ∃ i s : Nat, i ≤ n ∧ s ≤ 70368744177664 ∧ v11 = .int .i64 i ∧ v3 = .int .i64 s ∧ Hid (s + (xss.drop i).flatten.length = xss.flatten.length)) (fun _ _ v11 => n - (intOf v11).toNat)
  case atStart => exact ⟨0, 0, by omega, by omega, rfl, rfl, hid (by simp)⟩
  case round =>
    obtain ⟨i, s, hi, hs1, rfl, rfl, hrel⟩ := hrel
    by_cases hlt : i < n
    · obtain ⟨b, o, A', n', c', rfl, hcell, hb⟩ := HS.out i hlt
      have hfl := flat_drop xss i (by rw [hl.out]; exact hlt)
      have hbl := hb.len
      have hn' : s + n' ≤ 70368744177664 := by
        have := hrel.out; rw [hfl, List.length_append, hbl] at this; omega
      have HF := hid hfl; clear hfl
      have HBL := hid hbl; clear hbl hb
      have hge : ¬ ((s : Int) + n' < 0) := by omega
      go_wp2_with fail
      go_round
      case rel => exact ⟨i + 1, s + n', by omega, hn', by go_num, by go_num, hid (by have := hrel.out; rw [HF.out, List.length_append, HBL.out] at this; omega)⟩
      case measure => simp [intOf]; omega
    · have hsl : s = xss.flatten.length := by
        have := hrel.out; rw [List.drop_of_length_le (by rw [hl.out]; omega)] at this; simpa using this
      have HSL := hid hsl
      clear hsl hrel
      go_wp2_with (go_at_call 105; refine (grow_nil s _ hs1).mono ?_)
      rintro e w1 ⟨v1, rfl, ho, hb⟩
      go_wp2_with fail
      clear hs1
      go_loopw [6, 8, 27] (fun v6 v8 v27 wr => ∃ (j : Nat) (acc : List UInt8), j ≤ n ∧ v27 = .int .i64 j ∧ OwnB 5 wr w.heap.size v6 acc ∧ Below w.heap.size w wr ∧ Hid (acc ++ (xss.drop j).flatten = xss.flatten)) (fun _ _ v27 _ => n - (intOf v27).toNat)
      case atStart => exact ⟨0, [], by omega, rfl, ho, hb, hid (by simp)⟩
      case round =>
        clear ho hb
        obtain ⟨j, acc, hj, rfl, ho, hb, hrel⟩ := hrel
        by_cases hlt : j < n
        · obtain ⟨b, o, A', n', c', rfl, hcell, hbb⟩ := (HB.out.below hb).get j hlt
          have hfl := flat_drop xss j (by rw [hl.out]; exact hlt)
          have hlen : acc.length + n' ≤ 140737488355328 := by
            have := hrel.out; rw [hfl] at this
            have := congrArg List.length this
            have h3 := hbb.len
            simp only [List.length_append] at this
            omega
          have HF := hid hfl; clear hfl
          have hsz := hb.size
          go_wp2_with (at_builtin; go_loud (refine wpList_append_b (w0 := w) w.heap.size rfl _ _ 31 5 rfl Tryd.underlying31 info_u8 _ n' acc (xss.getD j []) A' c' rfl rfl ho hbb hb hsz hlen ?_))
          intro v2 w2 ho2 hb2 hg hat
          clear hg hat
          go_wp2
          go_roundw
          case rel => exact ⟨j + 1, acc ++ xss.getD j [], by omega, by go_num, ho2, hb2, hid (by rw [List.append_assoc, ← HF.out]; exact hrel.out)⟩
          case measure => simp [intOf]; omega
        · have he : acc = xss.flatten := by
            have := hrel.out; rw [List.drop_of_length_le (by rw [hl.out]; omega)] at this; simpa using this
          have HE := hid he
          clear he
          go_wp2
          go_ret
          exact ⟨_, rfl, by rw [← HE.out]; exact ho, hb⟩


theorem four_any (k : Nat) (w : World) (hk : k < 4294967296) : Calls Tryd.prog 99 #[.int .i64 k] w (OutB 5 w (fourB k)) := by
  go_enter Tryd.func99, Tryd.ntmps99
  go_wp2
  go_ret
  refine ⟨_, rfl, ?_, (Below.refl _ _).alloc (Nat.le_refl _) _⟩
  have h := OwnB.lit 5 w w.heap.size (fourB k) (Nat.le_refl _) (by simp [fourB])
  have e : (bv (fourB k)).toArray = #[.int .u8 ((k : Int) / 16777216 % 256), .int .u8 ((k : Int) / 65536 % 256), .int .u8 ((k : Int) / 256 % 256), .int .u8 ((k : Int) % 256)] := by
    simp [bv, fourB]
  rw [show (k : Int) / 16777216 % 256 = (k : Int) / 16777216 by omega] at e
  rw [e] at h
  exact h

set_option maxRecDepth 100000 in
theorem Frame_no (A : Option Addr) (n c : Nat) (w : World) (hn : 1048576 < n) : Calls Tryd.prog 86 #[.slice A n c] w fun e w' => e = .returned (.tuple #[.slice none 0 0, .int .i64 6]) ∧ w' = w := by
  go_enter Tryd.func86, Tryd.ntmps86
  go_wp2
  go_ret2
  exact ⟨rfl, rfl⟩

set_option maxRecDepth 100000 in
set_option maxHeartbeats 1000000 in
theorem Frame_ok (A : Option Addr) (n c : Nat) (xs : List UInt8) (w : World) (h : IsB w A n c xs) (hn : n ≤ 1048576) : Calls Tryd.prog 86 #[.slice A n c] w (OutB2 5 w (frameB xs) 0) := by
  have hc := h.cap
  have hm := h.max
  have HL := hid h.len
  go_enter Tryd.func86, Tryd.ntmps86
  go_wp2_with (go_at_call 85; refine (Num_ok n _ (by omega)).mono ?_)
  rintro e w1 ⟨v1, rfl, ho, hb⟩
  have hs1 := hb.size
  obtain ⟨A1, n1, c1, rfl, h1, -⟩ := ho.form
  have hl1 := numB_le n (by omega)
  have e1 := h1.len
  have HH1 := hid h1; have HE1 := hid e1; clear h1 e1 ho
  have hcl := crc_lt xs
  generalize hcr : crc xs = s at *
  have HCR := hid hcr; clear hcr
  have HH := hid h; clear h
  go_wp2_with (go_at_call 100; refine (sum_any A n c xs _ (HH.out.below (below_new hb _))).mono ?_)
  rintro e w2 ⟨rfl, hw2⟩
  have HW2 := hid hw2; clear hw2
  rw [HCR.out]
  go_wp2_with (go_at_call 99; refine (four_any s _ hcl).mono ?_)
  rintro e w3 ⟨v3, rfl, ho3, hb3⟩
  obtain ⟨A3, n3, c3, rfl, h3, -⟩ := ho3.form
  have hb3' : Below w1.heap.size w1 w3 := by rw [HW2.out] at hb3; exact below_then (below_alloc1 w1 _) hb3
  have hb3'' : Below (w1.alloc (Obj.cells #[Value.int IntKind.u8 93] 5)).heap.size (w1.alloc (Obj.cells #[Value.int IntKind.u8 93] 5)) w3 := by rw [HW2.out] at hb3; exact hb3
  have h0 := (IsB.new1 w1 5 93 93 rfl).below hb3''
  have h1 := HH1.out.below hb3'
  have h2 := HH.out.below (below_then hb hb3')
  have HBB := hid (IsBB.new w3 31 [(some ⟨w1.heap.size, 0, none⟩, 1, 1, [93]), (A1, n1, c1, numB n), (A, n, c, xs), (A3, n3, c3, fourB s)] (by
    intro t ht
    simp only [List.mem_cons, List.not_mem_nil, or_false] at ht
    rcases ht with rfl | rfl | rfl | rfl
    · exact h0
    · exact h1
    · exact h2
    · exact h3) (by simp))
  have e3 := hid h3.len
  clear h0 h1 h2 h3 ho3
  go_wp2_with (go_at_call 98; refine (concat_any _ _ _ _ _ HBB.out ?c1).mono ?_)
  case c1 =>
    have := HL.out
    simp only [List.map_cons, List.map_nil, List.flatten_cons, List.flatten_nil, List.length_append, List.length_cons, List.length_nil, List.append_nil]
    simp only [fourB, List.length_cons, List.length_nil]
    omega
  rintro e w4 ⟨v4, rfl, ho4, hb4⟩
  go_wp2_with fail
  go_ret2
  have hB : Below w.heap.size w (w3.alloc (.cells #[Value.slice (some ⟨w1.heap.size, 0, none⟩) 1 1, Value.slice A1 n1 c1, Value.slice A n c, Value.slice A3 n3 c3] 31)) := below_new (below_then hb hb3') _
  refine ⟨_, rfl, ?_, below_then hB hb4⟩
  have := ho4.lower hB.size
  have e : ([(some (⟨w1.heap.size, 0, none⟩ : Addr), 1, 1, [93]), (A1, n1, c1, numB n), (A, n, c, xs), (A3, n3, c3, fourB s)].map (·.2.2.2)).flatten = frameB xs := by
    simp [frameB, HL.out, HCR.out]
  rw [e] at this
  exact this


/-- The cases of 'unfL'. -/
theorem unfL_cases (xs : List UInt8) (h : 0 < xs.length) :
    (gb xs 0 ≠ 93 → unfL xs = ([], 0, 21)) ∧ (gb xs 0 = 93 → ∀ n k e, numL (xs.drop 1) = (n, k, e) →
      (e ≠ 0 → unfL xs = ([], 0, e)) ∧ (e = 0 → 1048576 < n → unfL xs = ([], 0, 21)) ∧ (e = 0 → n ≤ 1048576 → xs.length - (1 + k) < n + 4 → unfL xs = ([], 0, 20)) ∧
      (e = 0 → n ≤ 1048576 → n + 4 ≤ xs.length - (1 + k) → fourB (crc ((xs.drop (1 + k)).take n)) ≠ ((xs.drop (1 + k)).drop n).take 4 → unfL xs = ([], 0, 22)) ∧
      (e = 0 → n ≤ 1048576 → n + 4 ≤ xs.length - (1 + k) → fourB (crc ((xs.drop (1 + k)).take n)) = ((xs.drop (1 + k)).drop n).take 4 → unfL xs = ((xs.drop (1 + k)).take n, 1 + k + n + 4, 0))) := by
  rcases xs with _ | ⟨c, t⟩
  · simp at h
  have hz : c.toNat = 93 ↔ c = 93 := ⟨fun h => UInt8.toNat_inj.1 (by simpa using h), fun h => by subst h; rfl⟩
  simp only [gb, List.getD_cons_zero, List.drop_succ_cons, List.drop_zero, List.length_cons, unfL]
  refine ⟨fun h => ?_, fun h n k e hn => ?_⟩
  · rw [if_pos (fun q => h (by have := hz.2 q; omega))]
  · have hc := hz.1 (by omega)
    rw [if_neg (by simp [hc]), hn]
    have hd : ∀ m, List.drop (1 + m) (c :: t) = t.drop m := fun m => by rw [Nat.add_comm, List.drop_succ_cons]
    simp only [hd, List.length_drop]
    refine ⟨fun h1 => ?_, fun h1 h2 => ?_, fun h1 h2 h3 => ?_, fun h1 h2 h3 h4 => ?_, fun h1 h2 h3 h4 => ?_⟩
    · rw [if_pos h1]
    · rw [if_neg (by omega), if_pos h2]
    · rw [if_neg (by omega), if_neg (by omega), if_pos (by omega)]
    · rw [if_neg (by omega), if_neg (by omega), if_neg (by omega), if_pos h4]
    · rw [if_neg (by omega), if_neg (by omega), if_neg (by omega), if_neg (by rw [h4]; simp)]
set_option maxRecDepth 100000 in
set_option maxHeartbeats 1000000 in
theorem Unframe_any (A : Option Addr) (n c : Nat) (xs : List UInt8) (w : World) (h : IsB w A n c xs) :
    Calls Tryd.prog 89 #[.slice A n c] w (OutB3 5 w (unfL xs).1 (unfL xs).2.1 (unfL xs).2.2) := by
  have hc := h.cap
  have hm := h.max
  by_cases c0 : n = 0
  · have F := hid (show unfL xs = ([], 0, 20) by
      have hx : xs = [] := List.eq_nil_of_length_eq_zero (by rw [h.len, c0])
      rw [hx]; rfl)
    subst c0
    clear h
    go_enter Tryd.func89, Tryd.ntmps89
    go_wp2
    go_ret3
    rw [F.out]
    exact OutB3.nil _ _ _ _
  obtain ⟨b, o, rfl, hcell⟩ := h.some (by omega)
  obtain ⟨f1, f2⟩ := unfL_cases xs (by rw [h.len]; omega)
  have h0 : w.cell? ⟨b, o, none⟩ = some (.int .u8 (gb xs 0)) := hcell 0 (by omega)
  have kl := gb_lo xs 0
  have kh := gb_hi xs 0
  have hn0 : 0 < n := by omega
  have hn1 : ((n : Int) == 0) = false := by simp; omega
  clear hcell
  generalize hk0 : gb xs 0 = k0 at *
  have HK0 := hid hk0; clear hk0
  have HH := hid h; clear h
  by_cases c1 : k0 = 93
  · have f3 := hid (f2 c1); clear f1 f2
    have hp1 : (k0 == 93) = true := by simp [c1]
    have hp2 : (k0 != 93) = false := by simp [c1]
    clear c1
    have hcut := run_cut_l (P := Tryd.prog) 31 5 Tryd.underlying31 (info_parts info_u8).choose_spec.1 (info_parts info_u8).choose_spec.2.2.1 (some ⟨b, o, none⟩) n c .i64 1 (by omega) (by omega)
    have hd := HH.out.drop 1 (by omega)
    rw [show (1 : Int).toNat = 1 from rfl] at hcut
    generalize cutA (some ⟨b, o, none⟩) c 1 1 = A1 at *
    go_enter Tryd.func89, Tryd.ntmps89
    go_wp2_with (go_at_call 95; refine (number_any _ _ _ (xs.drop 1) _ hd).mono ?_)
    rintro e w1 ⟨rfl, rfl⟩
    rcases hnum : numL (xs.drop 1) with ⟨nn, k, e⟩
    obtain ⟨q1, q2, q3, q4, q5⟩ := f3.out nn k e hnum
    have hle := numL_le (xs.drop 1) nn k
    have HNUM := hid hnum; clear hnum f3 hd hcut
    by_cases ce : e = 0
    · subst ce
      obtain ⟨hk1, hk2, hk3⟩ := hle HNUM.out
      rw [List.length_drop, HH.out.len] at hk1
      have hxl := HH.out.len
      rw [hxl] at q3 q4 q5
      have HXL := hid hxl; clear hxl hle q1
      have hbt : (((0 : Nat) : Int) == 0) = true := rfl
      by_cases c2 : 1048576 < nn
      · have F := hid (q2 rfl c2); clear q2 q3 q4 q5
        go_wp2_with fail
        go_ret3
        rw [F.out]
        exact OutB3.nil _ _ _ _
      have c2' : nn ≤ 1048576 := by omega
      clear q2
      have hcut2 := run_cut_l (P := Tryd.prog) 31 5 Tryd.underlying31 (info_parts info_u8).choose_spec.1 (info_parts info_u8).choose_spec.2.2.1 (some ⟨b, o, none⟩) n c .i64 (1 + (k : Int)) (by omega) (by omega)
      have hd2 := HH.out.drop (1 + k) (by omega)
      rw [show (1 + (k : Int)).toNat = 1 + k by omega] at hcut2
      generalize cutA (some ⟨b, o, none⟩) c (1 + k) 1 = A2 at *
      have hr1 : n - (1 + k) ≤ c - (1 + k) := by omega
      by_cases c3 : n - (1 + k) < nn + 4
      · have F := hid (q3 rfl c2' c3); clear q3 q4 q5
        go_wp2_with fail
        go_ret3
        rw [F.out]
        exact OutB3.nil _ _ _ _
      have c3' : nn + 4 ≤ n - (1 + k) := by omega
      have Q4 := hid (q4 rfl c2' c3')
      have Q5 := hid (q5 rfl c2' c3')
      clear q3 q4 q5
      have hcut3 := run_cut_h (P := Tryd.prog) 31 5 Tryd.underlying31 (info_parts info_u8).choose_spec.1 (info_parts info_u8).choose_spec.2.2.1 A2 (n - (1 + k)) (c - (1 + k)) .i64 (nn : Int) (by omega) (by omega)
      have hcut4 := run_cut_lh (P := Tryd.prog) 31 5 Tryd.underlying31 (info_parts info_u8).choose_spec.1 (info_parts info_u8).choose_spec.2.2.1 A2 (n - (1 + k)) (c - (1 + k)) .i64 .i64 (nn : Int) ((nn : Int) + 4) (by omega) (by omega) (by omega)
      have hb1 := hd2.take nn (by omega)
      have hb2 := hd2.cut nn 4 (by omega)
      rw [Int.toNat_natCast] at hcut3
      rw [show (nn : Int).toNat = nn by omega, show ((nn : Int) + 4).toNat = nn + 4 by omega, show nn + 4 - nn = 4 by omega] at hcut4
      generalize cutA A2 (c - (1 + k)) 0 1 = A3 at *
      generalize cutA A2 (c - (1 + k)) nn 1 = A4 at *
      have hw : IntKind.i64.wrap ((nn : Int) + 4) = (nn : Int) + 4 := IntWalk.i64_in _ (by omega)
      have HB1 := hid hb1; have HB2 := hid hb2; clear hb1 hb2 hd2
      have hcl := crc_lt ((xs.drop (1 + k)).take nn)
      have HF := hid hcl
      go_wp2_with fail
      go_region_with (first | (go_at_call 100; refine (sum_any _ _ _ _ _ (HB1.out.below ((Below.refl _ _).drew))).mono ?_; rintro e w' ⟨rfl, rfl⟩) | (go_at_call 99; refine (four_any _ _ HF.out).mono ?_; rintro e w' ⟨v3, rfl, ho3, hb3⟩; obtain ⟨A5, n5, c5, rfl, h5, -⟩ := ho3.form) | (go_at_call 102; refine (equal_r _ _ _ _ _ _ _ _ _ h5 (HB2.out.below (below_then ((Below.refl _ w1).drew) hb3))).mono ?_; rintro e w2 ⟨r, rfl, hr, hdr⟩))
      have hB1 := below_then (below_then ((Below.refl _ w1).drew) hb3) hdr.below
      have HBB := hid hB1
      clear hb3 ho3 h5 hdr hB1 hcl hcut2 hcut4
      cases r with
      | true =>
        have F := hid (Q5.out (of_decide_eq_true hr.out.symm))
        go_wp2_with (go_at_call 54; refine (clone_any _ _ _ _ _ (HB1.out.below HBB.out) (by omega)).mono ?_)
        rintro e w3 ⟨v3, rfl, ho3, hb3⟩
        go_wp2_with fail
        go_ret3
        rw [F.out]
        refine ⟨_, ?_, ho3.lower HBB.out.size, below_then HBB.out hb3⟩
        exact ret3v rfl (by show (1 : Int) + k + nn + 4 = ((1 + k + nn + 4 : Nat) : Int); omega) rfl
      | false =>
        have F := hid (Q4.out (of_decide_eq_false hr.out.symm))
        go_wp2_with fail
        go_ret3
        rw [F.out]
        exact ⟨_, rfl, OwnB.nil _ _ _, HBB.out⟩
    · have F := hid (q1 ce); clear q1 q2 q3 q4 q5 hle
      have he : ((e : Int) == 0) = false := by simp; omega
      have he' : ((e : Int) != 0) = true := by rw [bne_iff_ne]; omega
      go_wp2_with fail
      go_ret3
      rw [F.out]
      exact OutB3.nil _ _ _ _
  · have F := hid (f1 c1); clear f1 f2
    have hp1 : (k0 == 93) = false := by simp [c1]
    have hp2 : (k0 != 93) = true := by simp [c1]
    clear c1
    go_enter Tryd.func89, Tryd.ntmps89
    go_wp2
    go_ret3
    rw [F.out]
    exact OutB3.nil _ _ _ _

end Go.Proofs.YtnakanophilfhaaDoor
