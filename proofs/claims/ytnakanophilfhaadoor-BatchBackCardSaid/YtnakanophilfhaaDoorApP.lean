/- append, with a property of all that lies in the row's block. -/
import Derived.Test.YtnakanophilfhaaDoorAp
set_option linter.unusedVariables false
set_option linter.unusedSimpArgs false
namespace Go.Dio
open Go.RowKit
/-- All cells of a value's own block have p. -/
def OwnAll (p : Value → Prop) (w : World) (v : Value) : Prop := ∀ g cs T fr, v.ownBlock = some g → w.heap[g]? = some (.cells cs T fr) → ∀ u ∈ cs.toList, p u
theorem OwnAll.kept {p : Value → Prop} {w w' : World} {v : Value} (h : OwnAll p w v) (hk : ∀ g, v.ownBlock = some g → w'.heap[g]? = w.heap[g]?) : OwnAll p w' v := fun g cs T fr hg hc => h g cs T fr hg (by rw [← hk g hg]; exact hc)
theorem OwnAll.nil (p : Value → Prop) (w : World) : OwnAll p w (.slice none 0 0) := fun g cs T fr hg => by cases hg
theorem zeroCells_all {p : Value → Prop} (z : Array Value) (hz : ∀ u ∈ z.toList, p u) (k : Nat) : ∀ u ∈ (Builtin.zeroCells z k).toList, p u := by
  intro u hu
  simp only [Builtin.zeroCells, Array.toList_map, List.mem_map] at hu
  obtain ⟨i, hi, rfl⟩ := hu
  have h0 : 0 < z.size := by
    rcases Nat.eq_zero_or_pos z.size with h | h
    · rw [h, Nat.mul_zero] at hi; simp at hi
    · exact h
  have hlt := Nat.mod_lt i h0
  rw [getElem!_pos z _ hlt]
  exact hz _ (by simp)
section
variable {P : Program}
theorem append_all {p : Value → Prop} (w : World) (base : Nat) (t ty e : TypeId) (i : TypeInfo) (z : Value) (size bytes : Nat) (ht : P.underlying t = some (.slice e)) (hi : P.info? e = some i) (hz : i.zero = some z)
    (hsize : i.size = size) (hby : i.bytes = bytes) (hzs : z.cells.size = size) (hsz : 0 < size)
    (v : Value) (n : Nat) (xs : List Value) (hown : w.ownsRow base e size v n xs)
    (a : Addr) (m c : Nat) (news : List Value) (hl : news.length = m * size) (hnews : ∀ j u, news[j]? = some u → w.cell? (a.add j) = some u) (h1 : ∀ u ∈ news, u.oneCell' = true)
    (h63 : n + m ≤ maxLen) (hbytes : (n + m) * bytes ≤ 140737488355328)
    (hold : OwnAll p w v) (hpz : ∀ u ∈ z.cells.toList, p u) (hpn : ∀ u ∈ news, p u) (hpx : ∀ u ∈ xs, p u) {v' : Value} {w' : World}
    (hrun : (Builtin.append_ #[t, t] ty #[v, .slice (some a) m c]).run P w = .ok v' w') : OwnAll p w' v' := by
  subst hsize
  subst hby
  have hsmall : n + m ≤ 9223372036854775807 := by simp only [maxLen] at h63; omega
  have grown : ∀ (cs : Array Value), (∀ u ∈ cs.toList, p u) → ∀ (k k' c' : Nat), OwnAll p (w.drew.alloc (.cells (cs ++ Builtin.zeroCells z.cells k) e)) (.slice (some ⟨w.heap.size, 0, none⟩) k' c') := by
    intro cs hcs k k' c' g cs' T fr hg hc u hu
    cases hg
    have hc2 := hc.symm.trans (heap_alloc_new w.drew (.cells (cs ++ Builtin.zeroCells z.cells k) e))
    cases hc2
    rw [Array.toList_append, List.mem_append] at hu
    rcases hu with hu | hu
    · exact hcs u hu
    · exact zeroCells_all _ hpz _ u hu
  rcases hown.2 with ⟨rfl, rfl⟩ | ⟨g, cap, cur, rfl, hbg, hg, hnc, hcm, hcs, htake⟩
  · have hx : xs = [] := List.eq_nil_of_length_eq_zero (by simpa using hown.1)
    subst hx
    by_cases hm : m = 0
    · subst hm
      have hn : news = [] := List.eq_nil_of_length_eq_zero (by simpa using hl)
      subst hn
      have hr : (Builtin.append_ #[t, t] ty #[.slice none 0 0, .slice (some a) 0 c]).run P w = .ok (.slice none 0 0) w := by
        simp [Builtin.append_, run_underlying ht, sizeOf, typeInfo, hi, Builtin.lenOf, Builtin.firstCells, loadCells, loadCellsFrom]
      rw [hr] at hrun
      cases hrun
      exact OwnAll.nil p w
    · have hr := run_append_nil (P := P) w t ty e i z ht hi hz a m c news hl hnews (by omega) (by omega) (by have hb := hbytes; simp only [Nat.zero_add] at hb; omega)
      rw [hr] at hrun
      cases hrun
      exact grown _ (by simpa using hpn) _ _ _
  · by_cases hroom : n + m ≤ cap
    · have hfit : n * i.size + news.length ≤ cur.size := by rw [hl, hcs, ← Nat.add_mul]; exact Nat.mul_le_mul_right _ hroom
      have hr := run_append_room (P := P) w t ty e i ht hi g n cap cur hg a m c news hl hnews h1 hroom hfit
      rw [hr] at hrun
      cases hrun
      intro g' cs' T fr hg' hc u hu
      cases hg'
      have hc2 := hc.symm.trans (setRow_heap w g cur _ e _ hg)
      cases hc2
      have ho := hold g cur e (0, 0) rfl hg
      simp only [List.mem_append] at hu
      rcases hu with (hu | hu) | hu
      · exact ho u (List.mem_of_mem_take hu)
      · exact hpn u hu
      · exact ho u (List.mem_of_mem_drop hu)
    · have holds : ∀ j u, xs[j]? = some u → w.cell? ((⟨g, 0, none⟩ : Addr).add j) = some u := hown.cells (g := g) rfl
      have hr := run_append_grow (P := P) w t ty e i z ht hi hz ⟨g, 0, none⟩ n cap xs hown.1 holds a m c news hl hnews (by omega) (by omega) (growslice_fits (by omega) hbytes)
      rw [hr] at hrun
      cases hrun
      exact grown _ (by
        intro u hu
        rw [Array.toList_append, List.mem_append] at hu
        rcases hu with hu | hu
        · exact hpx u (by simpa using hu)
        · exact hpn u (by simpa using hu)) _ _ _
variable {o : Oper} {a : Act} {K : Act → World → Prop} {Q : Exit → Act → World → Prop} {W : World}
/-- At one operation: append(v, ys...), ys in memory. -/
theorem wp_append_all {p : Value → Prop} (base : Nat) (s x : Operand) (t e : TypeId) (z : Value) (size bytes : Nat)
    (ho : o.op = .call { callee := .builtin .append, args := #[s, x], argTypes := #[t, t] })
    (ht : P.underlying t = some (.slice e)) (hinfo : (P.info? e).map (fun i => (i.zero, i.size, i.bytes)) = some (some z, size, bytes)) (hz : z.cells.size = size) (hsz : 0 < size) (hb0 : 0 < bytes)
    (v : Value) (n m : Nat) (cs ds : List Value) (ad : Addr) (c : Nat) (hs : a.eval s = v) (hx : a.eval x = .slice (some ad) m c)
    (HO : W.ownsRow base e size v n cs) (HR : ∀ j u, ds[j]? = some u → W.cell? (ad.add j) = some u) (hm : ds.length = m * size) (h1 : ∀ u ∈ ds, u.oneCell' = true) (hbase : base ≤ W.heap.size) (hl : (n + m) * bytes ≤ 140737488355328)
    (hold : OwnAll p W v) (hpz : ∀ u ∈ z.cells.toList, p u) (hpn : ∀ u ∈ ds, p u) (hpx : ∀ u ∈ cs, p u)
    (h : ∀ v1 w1, w1.ownsRow base e size v1 (n + m) (cs ++ ds) → OwnAll p w1 v1 → W.grownBy w1 v.ownBlock → (v1.ownBlock = v.ownBlock ∨ v1.ownBlock = some W.heap.size) → K (a.put o.dst v1) w1) :
    o.wp P a W K Q := by
  obtain ⟨i, hi, hz0, hz1, hz2⟩ := info_parts hinfo
  have hnm : n + m ≤ 140737488355328 := Nat.le_trans (Nat.le_mul_of_pos_right _ hb0) hl
  obtain ⟨v', w', hr, h2, h3, h4, h5⟩ := run_append_own_at (P := P) W base t o.type e i z size bytes ht hi hz0 hz1 hz2 hz hsz v n cs HO ad m c ds hm HR h1 (by simp only [maxLen]; omega) hl hbase
  have h6 := append_all (P := P) W base t o.type e i z size bytes ht hi hz0 hz1 hz2 hz hsz v n cs HO ad m c ds hm HR h1 (by simp only [maxLen]; omega) hl hold hpz hpn hpx hr
  unfold Oper.wp execOp
  simp only [ho, resolve, invoke, builtin, Sem.run_bind, Sem.run_pure, Result.andThen_ok, List.map_toArray, List.map_cons, List.map_nil, hs, hx, hr]
  exact h v' w' h2 h6 h3 h5
end
end Go.Dio
