/- Layer 7: how long an op's bytes are, and what its conditions tell of its parts. -/
import Derived.Test.YtnakanophilfhaaDoorPureO
namespace Go.Proofs.YtnakanophilfhaaDoor
open Go.RowKit Go.Dio
set_option linter.unusedVariables false
set_option linter.unusedSimpArgs false
theorem stB_le {t r : Int} (h : sright t r = true) : (stB t r).length ≤ 16 := by
  obtain ⟨h0, h1, h2, h3⟩ := sright_bd h
  have l1 := numB_le t.toNat (by omega)
  have l2 := numB_le r.toNat (by omega)
  simp only [stB, List.length_append]
  omega
theorem vB_le {k n : Int} {s : ByteArray} (h : vright k n s = true) : (vB k n s).length ≤ 100 := by
  have l1 := numB_le k.toNat (by rcases vright_cases h with ⟨rfl, _⟩ | ⟨h | h, _⟩ | ⟨rfl, _⟩ | ⟨rfl, _⟩ <;> omega)
  unfold vB
  rw [List.length_append]
  split
  · have := numB_le (zig n).toNat (by
      rcases vright_cases h with ⟨rfl, rfl, _⟩ | ⟨_, hn, _⟩ | ⟨rfl, rfl, _⟩ | ⟨rfl, hn, _⟩ <;> unfold zig <;> split <;> omega)
    omega
  · split
    · have := numB_le n.toNat (by rcases vright_cases h with ⟨rfl, rfl, _⟩ | ⟨_, hn, _⟩ | ⟨rfl, rfl, _⟩ | ⟨rfl, hn, _⟩ <;> omega)
      omega
    · split
      · rename_i hk
        rcases vright_cases h with ⟨rfl, _⟩ | ⟨h | h, _⟩ | ⟨_, _, hg⟩ | ⟨rfl, _⟩
        · omega
        · omega
        · omega
        · have := goodB_len hg
          have e : s.data.toList.length = s.size := by rw [Array.length_toList]; rfl
          have l3 := numB_le s.data.toList.length (by omega)
          have l4 : (textB s.data.toList).length = (numB s.data.toList.length).length + s.data.toList.length := by unfold textB; exact List.length_append
          omega
        · omega
      · simp; omega
theorem pathB_le : ∀ (l : List (Int × Int)), (∀ p ∈ l, sright p.1 p.2 = true) → (pathB l).length ≤ 16 * l.length
  | [], _ => by simp [pathB]
  | p :: l, h => by
    have h1 := stB_le (h p (List.mem_cons_self ..))
    have h2 := pathB_le l (fun q hq => h q (List.mem_cons_of_mem _ hq))
    have e : pathB (p :: l) = stB p.1 p.2 ++ pathB l := by simp [pathB]
    rw [e, List.length_append, List.length_cons]
    omega
theorem pathB_snoc (l : List (Int × Int)) (i : Nat) (x y : Int) (hi : i < l.length) (h : l.getD i (0, 0) = (x, y)) : pathB (l.take (i + 1)) = pathB (l.take i) ++ stB x y := by
  rw [List.getD_eq_getElem?_getD, List.getElem?_eq_getElem hi, Option.getD_some] at h
  rw [List.take_succ_eq_append_getElem hi, h]
  simp [pathB]
/-- What the conditions tell of the parts. -/
theorem oright_path {d : OpD} (h : oright d = true) (hp : pPath d.k = true) : 0 < d.path.length ∧ d.path.length ≤ 8 ∧ ∀ p ∈ d.path, sright p.1 p.2 = true := by
  obtain ⟨_, _, _, _, h5, _, _⟩ := oright_cs h
  have := fits_yes h5 hp
  simp only [opWay, Bool.and_eq_true, decide_eq_true_eq, List.all_eq_true] at this
  exact ⟨this.1.1, this.1.2, fun p hq => sNode_right (this.2 p hq)⟩
theorem oright_prop {d : OpD} (h : oright d = true) (hp : pProp d.k = true) : 1 ≤ d.prop ∧ d.prop ≤ 8 ∧ vright d.vk d.vn d.vt = true := by
  obtain ⟨_, _, _, _, _, h6, _⟩ := oright_cs h
  have := fits_yes h6 hp
  simp only [vright8, Bool.and_eq_true, decide_eq_true_eq] at this
  have h1 : ¬ kind8 d.prop = -1 := this.1
  have h2 : 1 ≤ d.prop ∧ d.prop ≤ 8 := by
    rcases Int.lt_or_le d.prop 1 with q | q
    · exact absurd (by unfold kind8; rw [if_neg (by omega), if_neg (by omega), if_neg (by omega), if_neg (by omega)]) h1
    · rcases Int.lt_or_le 8 d.prop with q2 | q2
      · exact absurd (by unfold kind8; rw [if_neg (by omega), if_neg (by omega), if_neg (by omega), if_neg (by omega)]) h1
      · exact ⟨q, q2⟩
  exact ⟨h2.1, h2.2, this.2.1⟩
theorem opB_le {d : OpD} (h : oright d = true) : (opB d).length ≤ 600 := by
  obtain ⟨h1, h2, h3, h4, h5, h6, h7⟩ := oright_cs h
  have hkb := kind_bd h1
  have ekl : d.key.data.toList.length = d.key.size := by rw [Array.length_toList]; rfl
  have q0 := numB_le d.k.toNat (by omega)
  have q1 : (if pNode d.k = true then stB d.n1 d.n2 else []).length ≤ 16 := by
    split
    · rename_i e; exact stB_le (sNode_right (fits_yes h2 e))
    · simp
  have q2 : (if pRef d.k = true then stB d.r1 d.r2 else []).length ≤ 16 := by
    split
    · rename_i e; exact stB_le (opTo_right (fits_yes h3 e))
    · simp
  have q3 : (if pKey d.k = true then textB d.key.data.toList else []).length ≤ 40 := by
    split
    · rename_i e
      have := fits_yes h4 e
      simp only [keyR, decide_eq_true_eq] at this
      have l := numB_le d.key.data.toList.length (by omega)
      simp only [textB, List.length_append]
      omega
    · simp
  have q4 : (if pPath d.k = true then numB d.path.length ++ pathB d.path else []).length ≤ 200 := by
    split
    · rename_i e
      obtain ⟨r1, r2, r3⟩ := oright_path h e
      have l := numB_le d.path.length (by omega)
      have l2 := pathB_le d.path r3
      simp only [List.length_append]
      omega
    · simp
  have q5 : (if pProp d.k = true then numB d.prop.toNat ++ vB d.vk d.vn d.vt else []).length ≤ 200 := by
    split
    · rename_i e
      obtain ⟨r1, r2, r3⟩ := oright_prop h e
      have l := numB_le d.prop.toNat (by omega)
      have l2 := vB_le r3
      simp only [List.length_append]
      omega
    · simp
  have q6 : (if pOn d.k = true then numB (if d.on = true then 1 else 0) else []).length ≤ 8 := by
    split
    · exact numB_le _ (by split <;> omega)
    · simp
  simp only [opB, List.length_append]
  omega
end Go.Proofs.YtnakanophilfhaaDoor
