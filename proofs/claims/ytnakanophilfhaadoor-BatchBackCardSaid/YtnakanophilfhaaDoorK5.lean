/- An append of bytes whose sum passes 2^47 by little: the row that is there is short. -/
import Derived.Test.YtnakanophilfhaaDoorK3
set_option linter.unusedVariables false
set_option linter.unusedSimpArgs false
namespace Go.Dio
open Go.RowKit

theorem growBy_le (need : Nat) : ∀ r c, c < need → Builtin.growBy need r c ≤ need + (need + 768) / 4 := by
  intro r
  induction r with
  | zero => intro c h; simp only [Builtin.growBy]; omega
  | succ r ih =>
    intro c h
    simp only [Builtin.growBy]
    rw [if_neg (by omega)]
    by_cases h2 : c + (c + 768) / 4 < need
    · exact ih _ h2
    · rcases r with _ | r
      · simp only [Builtin.growBy]; omega
      · simp only [Builtin.growBy]; rw [if_pos (by omega)]; omega
theorem nextcap_big {need old : Nat} (h : old < need) (hn : need ≤ 140737490000000) : Builtin.nextslicecap need old ≤ 281474976710656 := by
  unfold Builtin.nextslicecap
  split
  · omega
  · split
    · omega
    · have := growBy_le need 4 old h; omega

section
variable {P : Program} {ops : Array Oper} {rest : List Oper} {o : Oper} {a : Act} {Q : Exit → Act → World → Prop} {W : World}
theorem wpList_append_big {w0 : World} (base : Nat) (hgd : o.guard = none) (s x : Operand) (t e : TypeId)
    (ho : o.op = .call { callee := .builtin .append, args := #[s, x], argTypes := #[t, t] })
    (ht : P.underlying t = some (.slice e)) (hinfo : (P.info? e).map (fun i => (i.zero, i.size, i.bytes)) = some (some (.int .u8 0), 1, 1))
    (v : Value) (m : Nat) (xs ys : List UInt8) (A : Option Addr) (c : Nat) (hs : a.eval s = v) (hx : a.eval x = .slice A m c)
    (HO : OwnB e W base v xs) (hx0 : 0 < xs.length) (hxs : xs.length ≤ 70368744177664) (HR : IsB W A m c ys) (HB : Below base w0 W) (hbase : base ≤ W.heap.size) (hl : xs.length + m ≤ 140737490000000)
    (h : ∀ v1 w1, OwnB e w1 base v1 (xs ++ ys) → Below base w0 w1 → wpList P ops Q rest (a.put o.dst v1) w1) :
    wpList P ops Q (o :: rest) a W := by
  by_cases hm0 : m = 0
  · exact wpList_append_b base hgd s x t e ho ht hinfo v m xs ys A c hs hx HO HR HB hbase (by omega) fun v1 w1 h1 h2 _ _ => h v1 w1 h1 h2
  obtain ⟨b, off, rfl, hc⟩ := HR.cells.get (by rw [bv_length, HR.len]; omega)
  have hml := HR.len
  obtain ⟨i, hi, hz0, hz1, hz2⟩ := info_parts hinfo
  have hxl : (bv xs).length = xs.length * i.size := by rw [bv_length, hz1]; omega
  have hnl : (bv ys).length = m * i.size := by rw [bv_length, hz1]; omega
  have hnews : ∀ j u, (bv ys)[j]? = some u → W.cell? ((⟨b, off, none⟩ : Addr).add j) = some u := fun j u hu => by rw [Addr.add_lit]; exact hc j u hu
  have hrun : ∃ v1 w1, (Builtin.append_ #[t, t] o.type #[v, .slice (some ⟨b, off, none⟩) m c]).run P W = .ok v1 w1 ∧ OwnB e w1 base v1 (xs ++ ys) ∧ W.grownBy w1 v.ownBlock := by
    rcases HO.2 with ⟨_, h0⟩ | ⟨g, cap, cur, rfl, hbg, hg, hnc, hcm, hcs, htake⟩
    · omega
    have hlen : (bv (xs ++ ys)).length = (xs ++ ys).length * 1 := by rw [bv_length]; omega
    have hla : (xs ++ ys).length = xs.length + m := by rw [List.length_append, hml]
    by_cases hroom : xs.length + m ≤ cap
    · have hr := run_append_room (P := P) W t o.type e i ht hi g xs.length cap cur hg ⟨b, off, none⟩ m c (bv ys) hnl hnews (bv_one ys) hroom (by rw [hnl, hcs, hz1]; omega)
      refine ⟨_, _, hr, ⟨hlen, .inr ⟨g, cap, _, by rw [hla], hbg, setRow_heap W g cur _ e _ hg, by omega, hcm, ?_, ?_⟩⟩, ⟨rfl, rfl, rfl, by simp, fun k _ hk => setRow_other W g k _ (fun e => hk (by simp [Value.ownBlock, e]))⟩⟩
      · simp only [List.size_toArray, List.length_append, List.length_take, List.length_drop, Array.length_toList, hnl, hz1]
        omega
      · have e1 : cur.toList.take (xs.length * i.size) = bv xs := by rw [hz1]; exact htake
        rw [e1, bv_append]
        have e2 : (xs ++ ys).length * 1 = (bv xs ++ bv ys).length := by simp [bv_length]
        rw [e2]
        exact List.take_left
    · have holds : ∀ j u, (bv xs)[j]? = some u → W.cell? ((⟨g, 0, none⟩ : Addr).add j) = some u := HO.cells (g := g) rfl
      have hr := run_append_grow (P := P) W t o.type e i (.int .u8 0) ht hi hz0 ⟨g, 0, none⟩ xs.length cap (bv xs) hxl holds ⟨b, off, none⟩ m c (bv ys) hnl hnews (by omega) (by omega) (by rw [hz2, Nat.mul_one]; exact nextcap_big (by omega) hl)
      have hge := grownCap_ge W (xs.length + m) cap e
      have hcm2 : grownCap W (xs.length + m) cap e ≤ maxLen := grownCap_le_maxLen W (xs.length + m) cap e (by simp only [maxLen]; omega)
      refine ⟨_, _, hr, ⟨hlen, .inr ⟨W.heap.size, _, _, by rw [hla], hbase, heap_alloc_new W.drew _, by omega, hcm2, ?_, ?_⟩⟩, ⟨rfl, rfl, rfl, by simp, fun k hk _ => Below.heap_alloc W.drew _ k hk⟩⟩
      · simp only [Array.size_append, List.size_toArray, size_zeroCells, Value.cells, bv_length, hml]
        simp
        omega
      · simp only [Array.toList_append, List.append_assoc]
        rw [← List.append_assoc, bv_append]
        have e2 : (xs ++ ys).length * 1 = (bv xs ++ bv ys).length := by simp [bv_length]
        rw [e2]
        exact List.take_left
  obtain ⟨v1, w1, hr, hown, hg⟩ := hrun
  refine wpList_plain hgd fun K hK => ?_
  unfold Oper.wp execOp
  simp only [ho, resolve, invoke, builtin, Sem.run_bind, Sem.run_pure, Result.andThen_ok, List.map_toArray, List.map_cons, List.map_nil, hs, hx, hr]
  exact hK _ _ (h v1 w1 hown (HB.grown hg hbase (owns_base HO)))
end
end Go.Dio
