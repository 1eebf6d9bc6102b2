/- Values, for the layer of ops. -/
import Derived.Test.YtnakanophilfhaaDoorProg
import Derived.Test.YtnakanophilfhaaDoorK6
import Derived.Test.YtnakanophilfhaaDoorReg
import Derived.Laws.IdiomStrings
import Derived.Tactics2
import Derived.WalkKit
namespace Go.Proofs.YtnakanophilfhaaDoor
open Go.RowKit Go.Dio
set_option linter.unusedVariables false
set_option linter.unusedSimpArgs false


/-- A value. -/
@[reducible] def vv (k n : Int) (s : ByteArray) : Value := .agg #[.int .i64 k, .int .i64 n, .string s]
/-- The cells of one. -/
@[reducible] def vo (k n : Int) (s : ByteArray) : Obj := .cells #[.int .i64 k, .int .i64 n, .string s] 26

/-- A byte that may be in a text. -/
@[reducible] def cOk (c : UInt8) : Prop := 32 ≤ c.toNat ∧ c.toNat ≤ 126
/-- May a text be? -/
def goodB (s : ByteArray) : Bool := decide ((∀ i, i < s.size → cOk (s.data.getD i 0)) ∧ s.size ≤ 64)
theorem goodB_no {s : ByteArray} {i : Nat} (hi : i < s.size) (h : ¬ cOk (s.data.getD i 0)) : goodB s = false := by
  simp only [goodB, decide_eq_false_iff_not]
  exact fun h' => h (h'.1 i hi)
theorem goodB_end {s : ByteArray} (h : ∀ j, j < s.size → cOk (s.data.getD j 0)) : goodB s = decide (s.size ≤ 64) := by
  simp only [goodB, decide_eq_decide]
  exact ⟨fun h' => h'.2, fun h' => ⟨h, h'⟩⟩

theorem good_any (s : ByteArray) (w : World) (hs : s.size ≤ 9223372036854775807) : Calls Tryd.prog 103 #[.string s] w fun e w' => e = .returned (.bool (goodB s)) ∧ Below w.heap.size w w' := by
  have hconv := fun w => run_bytes_of_string (P := Tryd.prog) w 9 31 5 s Tryd.underlying9 Tryd.underlying31 Tryd.underlying5
  go_enter Tryd.func103, Tryd.ntmps103
  go_wp2_with fail
  go_loopw [8] (fun v8 wr => ∃ i : Nat, i ≤ s.size ∧ v8 = .int .i64 i ∧ (∀ j, j < i → cOk (s.data.getD j 0)) ∧ (∃ cap fr, wr.heap[w.heap.size]? = some (.cells (bytesRow s cap) 5 fr)) ∧ Below w.heap.size w wr) (fun v8 _ => s.size - (intOf v8).toNat)
  case atStart => exact ⟨0, by omega, rfl, fun j hj => absurd hj (by omega), ⟨_, _, new_at w _⟩, (below_alloc1 w _).drew⟩
  case round =>
    obtain ⟨i, hi, rfl, hj, ⟨cap, fr, hm⟩, hb⟩ := hrel
    have HB := hid hb
    have HJ := hid hj
    have HM := hid hm
    clear hb hj hm hconv
    by_cases hlt : i < s.size
    · have c0 : wr.cell? ⟨w.heap.size, i, none⟩ = some (.int .u8 (s.data.getD i 0).toNat) := by
        have hlt' : i < s.data.size := hlt
        rw [cell_of HM.out i (bytesRow_at s cap i hlt'), Array.getD_eq_getD_getElem?, Array.getElem?_eq_getElem hlt']
        rfl
      have HN := hid (fun h => goodB_no (s := s) hlt h)
      have HK := hid (show ∀ j, j < i + 1 → (cOk (s.data.getD i 0)) → cOk (s.data.getD j 0) from fun j hj h => by
        by_cases e : j = i
        · subst e; exact h
        · exact HJ.out j (by omega))
      generalize s.data.getD i 0 = c at *
      by_cases h1 : c.toNat < 32
      · go_wp2_with fail
        go_ret
        exact ⟨by rw [HN.out (fun h => by have := h.1; omega)]; rfl, HB.out⟩
      · by_cases h2 : 126 < c.toNat
        · go_wp2_with fail
          go_ret
          exact ⟨by rw [HN.out (fun h => by have := h.2; omega)]; rfl, HB.out⟩
        · go_wp2_with fail
          refine ⟨⟨i + 1, by omega, by go_num, fun j hj => HK.out j hj ⟨by omega, by omega⟩, ⟨cap, fr, HM.out⟩, HB.out⟩, ?_⟩
          simp [intOf]; omega
    · have hin : i = s.size := by omega
      subst hin
      go_wp2_with fail
      go_ret
      rw [goodB_end HJ.out]
      exact ⟨by simp; omega, HB.out⟩

theorem rgood_any (s : ByteArray) (w : World) (hs : s.size ≤ 9223372036854775807) : Calls Tryd.prog 104 #[.string s] w fun e w' => e = .returned (.bool (goodB s)) ∧ w = w' := by
  go_enter Tryd.func104, Tryd.ntmps104
  go_wp2_with fail
  go_loopw [3] (fun v3 wr => ∃ i : Nat, i ≤ s.size ∧ v3 = .int .i64 i ∧ (∀ j, j < i → cOk (s.data.getD j 0)) ∧ w = wr) (fun v3 _ => s.size - (intOf v3).toNat)
  case atStart => exact ⟨0, by omega, rfl, fun j hj => absurd hj (by omega), rfl⟩
  case round =>
    obtain ⟨i, hi, rfl, hj, rfl⟩ := hrel
    have HJ := hid hj
    clear hj
    by_cases h64 : s.size ≤ 64
    · by_cases hlt : i < s.size
      · have HN := hid (fun h => goodB_no (s := s) hlt h)
        have HK := hid (show ∀ j, j < i + 1 → (cOk (s.data.getD i 0)) → cOk (s.data.getD j 0) from fun j hj h => by
          by_cases e : j = i
          · subst e; exact h
          · exact HJ.out j (by omega))
        have hsi : s.data.getD i 0 = s[i] := by
          rw [Array.getD_eq_getD_getElem?, Array.getElem?_eq_getElem (show i < s.data.size from hlt)]
          rfl
        rw [hsi] at HN HK
        by_cases h1 : s[i].toNat < 32
        · go_wp2_with fail
          go_ret
          exact ⟨by rw [HN.out (fun h => by have := h.1; omega)]; rfl, rfl⟩
        · by_cases h2 : 126 < s[i].toNat
          · go_wp2_with fail
            go_ret
            exact ⟨by rw [HN.out (fun h => by have := h.2; omega)]; rfl, rfl⟩
          · go_wp2_with fail
            refine ⟨⟨i + 1, by omega, by go_num, fun j hj => HK.out j hj ⟨by omega, by omega⟩, trivial⟩, ?_⟩
            simp [intOf]; omega
      · have hin : i = s.size := by omega
        subst hin
        go_wp2_with fail
        go_ret
        rw [goodB_end HJ.out]
        exact ⟨by simp; omega, rfl⟩
    · have e : goodB s = false := by simp only [goodB, decide_eq_false_iff_not]; exact fun h => h64 h.2
      by_cases hlt : i < s.size
      all_goals
        go_wp2_with fail
        go_ret
        rw [e]
        exact ⟨by simp; omega, rfl⟩

/-- May a value be? -/
def vright (k n : Int) (s : ByteArray) : Bool :=
  if k = 0 then decide (n = 0) && s.toList.isEmpty
  else if k = 1 ∨ k = 2 then decide (-1099511627776 ≤ n ∧ n ≤ 1099511627776) && s.toList.isEmpty
  else if k = 3 then decide (n = 0) && goodB s
  else if k = 4 then decide (n = 0 ∨ n = 1) && s.toList.isEmpty
  else false
theorem toList_eq (s : ByteArray) : s.toList = s.data.toList := ByteArray.toList_eq s
theorem emp_iff (s : ByteArray) : s.toList.isEmpty = true ↔ s = ⟨#[]⟩ := by
  rw [toList_eq]
  obtain ⟨⟨l⟩⟩ := s
  cases l <;> simp

set_option maxRecDepth 100000 in
set_option maxHeartbeats 1000000 in
theorem VRight_any (k n : Int) (s : ByteArray) (w : World) (hs : s.size ≤ 9223372036854775807) : Calls Tryd.prog 92 #[vv k n s] w fun e w' => e = .returned (.bool (vright k n s)) ∧ Below w.heap.size w w' := by
  by_cases h3 : k = 3 ∧ n = 0
  · obtain ⟨rfl, rfl⟩ := h3
    go_enter Tryd.func92, Tryd.ntmps92
    go_wp2_with fail
    refine (good_any s _ hs).mono ?_
    rintro e w1 ⟨rfl, hb⟩
    have HB := hid (below_then (below_alloc1 _ _) hb)
    clear hb
    go_wp2_with fail
    go_ret
    exact ⟨by simp [vright], HB.out⟩
  · have hee := emp_iff s
    have hk : k = 0 ∨ k = 1 ∨ k = 2 ∨ (k = 3 ∧ n ≠ 0) ∨ k = 4 ∨ ((k == 0) = false ∧ (k == 1) = false ∧ (k == 2) = false ∧ (k == 3) = false ∧ (k == 4) = false) := by
      simp only [beq_eq_false_iff_ne]; omega
    clear h3
    rcases hem : s.toList.isEmpty with _ | _
    · have hne : s ≠ ⟨#[]⟩ := fun e => by rw [hee.2 e] at hem; cases hem
      clear hee
      rcases hk with rfl | rfl | rfl | ⟨rfl, hn⟩ | rfl | ⟨k0, k1, k2, k3, k4⟩
      all_goals
        go_enter Tryd.func92, Tryd.ntmps92
        go_wp2_with fail
        all_goals
          go_ret
          refine ⟨?_, below_alloc1 _ _⟩
          first
          | (simp [vright, *]; done)
          | (simp [vright, *]; simp_all; done)
          | (simp only [beq_eq_false_iff_ne] at *; simp [vright, *]; done)
    · have he := hee.1 hem
      clear hee
      subst he
      rcases hk with rfl | rfl | rfl | ⟨rfl, hn⟩ | rfl | ⟨k0, k1, k2, k3, k4⟩
      all_goals
        go_enter Tryd.func92, Tryd.ntmps92
        go_wp2_with fail
        all_goals
          go_ret
          refine ⟨?_, below_alloc1 _ _⟩
          first
          | (simp [vright, *]; done)
          | (simp [vright, *]; omega)
          | (simp only [beq_eq_false_iff_ne] at *; simp [vright, *]; done)
set_option maxRecDepth 100000 in
set_option maxHeartbeats 1000000 in
theorem rVRight_any (k n : Int) (s : ByteArray) (w : World) (hs : s.size ≤ 9223372036854775807) : Calls Tryd.prog 93 #[vv k n s] w fun e w' => e = .returned (.bool (vright k n s)) ∧ Below w.heap.size w w' := by
  by_cases h3 : k = 3 ∧ n = 0
  · obtain ⟨rfl, rfl⟩ := h3
    go_enter Tryd.func93, Tryd.ntmps93
    go_wp2_with fail
    refine (rgood_any s _ hs).mono ?_
    rintro e w1 ⟨rfl, rfl⟩
    go_wp2_with fail
    go_ret
    exact ⟨by simp [vright], below_alloc1 _ _⟩
  · have hee := emp_iff s
    have hk : k = 0 ∨ k = 1 ∨ k = 2 ∨ (k = 3 ∧ n ≠ 0) ∨ k = 4 ∨ ((k == 0) = false ∧ (k == 1) = false ∧ (k == 2) = false ∧ (k == 3) = false ∧ (k == 4) = false) := by
      simp only [beq_eq_false_iff_ne]; omega
    clear h3
    rcases hem : s.toList.isEmpty with _ | _
    · have hne : s ≠ ⟨#[]⟩ := fun e => by rw [hee.2 e] at hem; cases hem
      clear hee
      rcases hk with rfl | rfl | rfl | ⟨rfl, hn⟩ | rfl | ⟨k0, k1, k2, k3, k4⟩
      all_goals
        go_enter Tryd.func93, Tryd.ntmps93
        go_wp2_with fail
        all_goals
          go_ret
          refine ⟨?_, below_alloc1 _ _⟩
          first
          | (simp [vright, *]; done)
          | (simp [vright, *]; simp_all; done)
          | (simp only [beq_eq_false_iff_ne] at *; simp [vright, *]; done)
    · have he := hee.1 hem
      clear hee
      subst he
      rcases hk with rfl | rfl | rfl | ⟨rfl, hn⟩ | rfl | ⟨k0, k1, k2, k3, k4⟩
      all_goals
        go_enter Tryd.func93, Tryd.ntmps93
        go_wp2_with fail
        all_goals
          go_ret
          refine ⟨?_, below_alloc1 _ _⟩
          first
          | (simp [vright, *]; done)
          | (simp [vright, *]; omega)
          | (simp only [beq_eq_false_iff_ne] at *; simp [vright, *]; done)

end Go.Proofs.YtnakanophilfhaaDoor
