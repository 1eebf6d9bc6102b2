/- An append, a clone and a reader of bytes whose number passes 2^47 by little. -/
import Derived.Test.YtnakanophilfhaaDoorK5
import Derived.Test.YtnakanophilfhaaDoorRdrB2
import Derived.Test.YtnakanophilfhaaDoorFr
set_option linter.unusedVariables false
set_option linter.unusedSimpArgs false
namespace Go.Proofs.YtnakanophilfhaaDoor
open Go.RowKit Go.Dio
section
variable {P : Program} {ops : Array Oper} {rest : List Oper} {o : Oper} {a : Act} {Q : Exit → Act → World → Prop} {W : World}
theorem wpList_append_huge {w0 : World} (base : Nat) (hgd : o.guard = none) (s x : Operand) (t e : TypeId)
    (ho : o.op = .call { callee := .builtin .append, args := #[s, x], argTypes := #[t, t] })
    (ht : P.underlying t = some (.slice e)) (hinfo : (P.info? e).map (fun i => (i.zero, i.size, i.bytes)) = some (some (.int .u8 0), 1, 1))
    (v : Value) (m : Nat) (xs ys : List UInt8) (A : Option Addr) (c : Nat) (hs : a.eval s = v) (hx : a.eval x = .slice A m c)
    (HO : OwnB e W base v xs) (hv : v ≠ .slice none 0 0) (hxs : xs.length ≤ 70368744177664) (HR : IsB W A m c ys) (HB : Below base w0 W) (hbase : base ≤ W.heap.size) (hl : xs.length + m ≤ 140737490000000)
    (h : ∀ v1 w1, OwnB e w1 base v1 (xs ++ ys) → Below base w0 w1 → wpList P ops Q rest (a.put o.dst v1) w1) :
    wpList P ops Q (o :: rest) a W := by
  by_cases hm0 : m = 0
  · exact wpList_append_b base hgd s x t e ho ht hinfo v m xs ys A c hs hx HO HR HB hbase (by omega) fun v1 w1 h1 h2 _ _ => h v1 w1 h1 h2
  obtain ⟨b, off, rfl, hc⟩ := HR.cells.get (by rw [bv_length, HR.len]; omega)
  have hml := HR.len
  obtain ⟨i, hi, hz0, hz1, hz2⟩ := info_parts hinfo
  have hxl : (bv xs).length = xs.length * i.size := by rw [bv_length, hz1]; omega
  have hnl : (bv ys).length = m * i.size := by rw [bv_length, hz1]; omega
  have hnews : ∀ j u, (bv ys)[j]? = some u → W.cell? ((⟨b, off, none⟩ : Addr).add j) = some u := fun j u hu => by rw [Addr.add_lit]; exact hc j u hu
  have hrun : ∃ v1 w1, (Builtin.append_ #[t, t] o.type #[v, .slice (some ⟨b, off, none⟩) m c]).run P W = .ok v1 w1 ∧ OwnB e w1 base v1 (xs ++ ys) ∧ W.grownBy w1 v.ownBlock := by
    rcases HO.2 with ⟨e0, _⟩ | ⟨g, cap, cur, rfl, hbg, hg, hnc, hcm, hcs, htake⟩
    · exact absurd e0 hv
    have hlen : (bv (xs ++ ys)).length = (xs ++ ys).length * 1 := by rw [bv_length]; omega
    have hla : (xs ++ ys).length = xs.length + m := by rw [List.length_append, hml]
    by_cases hroom : xs.length + m ≤ cap
    · have hr := run_append_room (P := P) W t o.type e i ht hi g xs.length cap cur hg ⟨b, off, none⟩ m c (bv ys) hnl hnews (bv_one ys) hroom (by rw [hnl, hcs, hz1]; omega)
      refine ⟨_, _, hr, ⟨hlen, .inr ⟨g, cap, _, by rw [hla], hbg, setRow_heap W g cur _ e _ hg, by omega, hcm, ?_, ?_⟩⟩, ⟨rfl, rfl, rfl, by simp, fun k _ hk => setRow_other W g k _ (fun e => hk (by simp [Value.ownBlock, e]))⟩⟩
      · simp only [List.size_toArray, List.length_append, List.length_take, List.length_drop, Array.length_toList, hnl, hz1]
        omega
      · have e1 : cur.toList.take (xs.length * i.size) = bv xs := by rw [hz1]; exact htake
        rw [e1, bv_append]
        have e2 : (xs ++ ys).length * 1 = (bv xs ++ bv ys).length := by simp [bv_length]
        rw [e2]
        exact List.take_left
    · have holds : ∀ j u, (bv xs)[j]? = some u → W.cell? ((⟨g, 0, none⟩ : Addr).add j) = some u := HO.cells (g := g) rfl
      have hr := run_append_grow (P := P) W t o.type e i (.int .u8 0) ht hi hz0 ⟨g, 0, none⟩ xs.length cap (bv xs) hxl holds ⟨b, off, none⟩ m c (bv ys) hnl hnews (by omega) (by omega) (by rw [hz2, Nat.mul_one]; exact nextcap_big (by omega) hl)
      have hge := grownCap_ge W (xs.length + m) cap e
      have hcm2 : grownCap W (xs.length + m) cap e ≤ maxLen := grownCap_le_maxLen W (xs.length + m) cap e (by simp only [maxLen]; omega)
      refine ⟨_, _, hr, ⟨hlen, .inr ⟨W.heap.size, _, _, by rw [hla], hbase, heap_alloc_new W.drew _, by omega, hcm2, ?_, ?_⟩⟩, ⟨rfl, rfl, rfl, by simp, fun k hk _ => Below.heap_alloc W.drew _ k hk⟩⟩
      · simp only [Array.size_append, List.size_toArray, size_zeroCells, Value.cells, bv_length, hml]
        simp
        omega
      · simp only [Array.toList_append, List.append_assoc]
        rw [← List.append_assoc, bv_append]
        have e2 : (xs ++ ys).length * 1 = (bv xs ++ bv ys).length := by simp [bv_length]
        rw [e2]
        exact List.take_left
  obtain ⟨v1, w1, hr, hown, hg⟩ := hrun
  refine wpList_plain hgd fun K hK => ?_
  unfold Oper.wp execOp
  simp only [ho, resolve, invoke, builtin, Sem.run_bind, Sem.run_pure, Result.andThen_ok, List.map_toArray, List.map_cons, List.map_nil, hs, hx, hr]
  exact hK _ _ (h v1 w1 hown (HB.grown hg hbase (owns_base HO)))
end
set_option maxHeartbeats 1000000 in
theorem clone_big (A : Option Addr) (n c : Nat) (xs : List UInt8) (w : World) (h : IsB w A n c xs) (hn : n ≤ 140737490000000) :
    Calls Tryd.prog 54 #[.slice A n c] w (OutB 5 w xs) := by
  rcases A with _ | ad
  · have hx : xs = [] := by
      rcases Nat.eq_zero_or_pos n with h0 | h0
      · exact List.eq_nil_of_length_eq_zero (by rw [h.len, h0])
      · obtain ⟨b, o, e, _⟩ := h.some h0; cases e
    have hn0 : n = 0 := by rw [← h.len, hx]; rfl
    have hcc := h.max
    subst hx hn0
    clear h
    have hnil := run_eqnil (P := Tryd.prog) 31 5 Tryd.underlying31
    go_enter Tryd.func54, Tryd.ntmps54
    go_wp2
    go_ret
    exact ⟨_, rfl, OwnB.nil _ _ _, Below.refl _ _⟩
  · have hnil := run_eqnil (P := Tryd.prog) 31 5 Tryd.underlying31
    have hl := hid h.len
    go_enter Tryd.func54, Tryd.ntmps54
    go_wp2_with (at_builtin; refine wpList_append_huge (w0 := w) w.heap.size rfl _ _ 31 5 rfl Tryd.underlying31 info_u8 (.slice (some ⟨w.heap.size, 0, none⟩) 0 0) n [] xs (some ad) c rfl rfl ?c1 (by simp) (by simp) ?c2 ?c3 ?c4 ?c5 ?_)
    case c1 => exact OwnB.lit _ w _ [] (Nat.le_refl _) (by simp)
    case c2 => exact h.below ((Below.refl _ _).alloc (Nat.le_refl _) _)
    case c3 => exact (Below.refl _ _).alloc (Nat.le_refl _) _
    case c4 => simp
    case c5 => simpa using hn
    intro v1 w1 ho hb
    go_wp2
    go_ret
    exact ⟨v1, rfl, ho, hb⟩

theorem Open_big (A : Option Addr) (n c : Nat) (xs : List UInt8) (w : World) (h : IsB w A n c xs) (hn : n ≤ 140737490000000) :
    Calls Tryd.prog 17 #[.slice A n c] w (OpenOut w xs) := by
  have HH := hid h; clear h
  go_enter Tryd.func17, Tryd.ntmps17
  go_wp2_with fail
  refine (clone_big A n c xs _ HH.out hn).mono ?_
  rintro e w1 ⟨v1, rfl, ho, hb⟩
  obtain ⟨A1, n1, c1, rfl, h1, hA⟩ := ho.form
  have hlt : ∀ a, A1 = some a → w.heap.size ≤ a.block ∧ a.block < w1.heap.size := fun a ha => ⟨(hA a ha).1, (hA a ha).2.1⟩
  have H1 := hid h1; have HB := hid hb; have HLT := hid hlt
  clear ho h1 hb hA hlt
  go_wp2_with fail
  go_ret
  refine ⟨_, rfl, ⟨HB.out.size, A1, n1, c1, heap_alloc_new w1 _, H1.out.below (below_alloc1 w1 _), fun a ha => ?_⟩, below_new HB.out _⟩
  have := HLT.out a ha
  exact ⟨this.1, by omega⟩

section
variable {P : Program} {L : List Oper} {Q : Exit → Act → World → Prop} {k N d : Nat} {a : Act} {w : World} {l : List (Nat × Value)} {o : Oper} {v : Value}
theorem kAppBig {w0 : World} (base : Nat) (F : Fr a N l) (ho : L[k]? = some o) (hg : o.guard = none) (hd : o.dst = some d) (hN : Nat.blt d N = true) {s x : Nat} {t e : TypeId}
    (hop : o.op = .call { callee := .builtin .append, args := #[.tmp s, .tmp x], argTypes := #[t, t] })
    (ht : P.underlying t = some (.slice e)) (hinfo : (P.info? e).map (fun i => (i.zero, i.size, i.bytes)) = some (some (.int .u8 0), 1, 1)) {m c : Nat} {xs ys : List UInt8} {A : Option Addr}
    (hs : look l s = some v) (hx : look l x = some (.slice A m c)) (HO : OwnB e w base v xs) (hv : v ≠ .slice none 0 0) (hxs : xs.length ≤ 70368744177664) (HR : IsB w A m c ys) (HB : Below base w0 w) (hbase : base ≤ w.heap.size) (hl : xs.length + m ≤ 140737490000000)
    (h : ∀ v1 w1, OwnB e w1 base v1 (xs ++ ys) → Below base w0 w1 → ∀ a', Fr a' N ((d, v1) :: l) → kAt P L Q (k + 1) a' w1) : kAt P L Q k a w := by
  unfold kAt
  rw [drop_cons ho]
  exact wpList_append_huge base hg (.tmp s) (.tmp x) t e hop ht hinfo v m xs ys A c (F.ev s hs) (F.ev x hx) HO hv hxs HR HB hbase hl fun v1 w1 h1 h2 => h v1 w1 h1 h2 _ (F.set hd hN)
end
end Go.Proofs.YtnakanophilfhaaDoor
