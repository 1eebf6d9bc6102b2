/- Layer 7: ops in memory; a path's looks. -/
import Derived.Test.YtnakanophilfhaaDoorOpA
import Derived.Test.YtnakanophilfhaaDoorStR
namespace Go.Proofs.YtnakanophilfhaaDoor
open Go.RowKit Go.Dio
set_option linter.unusedVariables false
set_option linter.unusedSimpArgs false

/-- An op with its path in a slice. -/
@[reducible] def oxs (d : OpD) (A : Option Addr) (n c : Nat) : Array Value := #[.int .i64 d.k, .int .i64 d.n1, .int .i64 d.n2, .int .i64 d.r1, .int .i64 d.r2, .string d.key, .slice A n c, .int .i64 d.prop, .int .i64 d.vk, .int .i64 d.vn, .string d.vt, .bool d.on]
@[reducible] def opv (d : OpD) (A : Option Addr) (n c : Nat) : Value := .agg (oxs d A n c)
@[reducible] def oo (d : OpD) (A : Option Addr) (n c : Nat) : Obj := .cells (oxs d A n c) 35
structure OAt (w : World) (b : Nat) (d : OpD) (A : Option Addr) (n c : Nat) : Prop where
  own : w.heap[b]? = some (oo d A n c)
theorem OAt.lt {w : World} {b : Nat} {d : OpD} {A : Option Addr} {n c : Nat} (h : OAt w b d A n c) : b < w.heap.size := (Array.getElem?_eq_some_iff.1 h.own).1
theorem OAt.below {w w' : World} {b : Nat} {d : OpD} {A : Option Addr} {n c : Nat} (h : OAt w b d A n c) (hb : Below w.heap.size w w') : OAt w' b d A n c := ⟨by rw [hb.block b h.lt]; exact h.own⟩
theorem OAt.drew {w : World} {b : Nat} {d : OpD} {A : Option Addr} {n c : Nat} (h : OAt w b d A n c) : OAt w.drew b d A n c := ⟨h.own⟩
theorem OAt.new (w : World) (d : OpD) (A : Option Addr) (n c : Nat) (b : Nat) (hb : w.heap.size = b) : OAt (w.alloc (oo d A n c)) b d A n c := by subst hb; exact ⟨new_at _ _⟩
theorem OAt.fz {w : World} {b : Nat} {d : OpD} {A : Option Addr} {n c : Nat} (h : OAt w b d A n c) (i : Nat) : w.frozen? ⟨b, i, none⟩ = false := by simp [World.frozen?, h.own]
/-- All its cells. -/
structure OCells (w : World) (b : Nat) (d : OpD) (A : Option Addr) (n c : Nat) : Prop where
  c0 : w.cell? ⟨b, 0, none⟩ = some (.int .i64 d.k)
  c1 : w.cell? ⟨b, 1, none⟩ = some (.int .i64 d.n1)
  c2 : w.cell? ⟨b, 2, none⟩ = some (.int .i64 d.n2)
  c3 : w.cell? ⟨b, 3, none⟩ = some (.int .i64 d.r1)
  c4 : w.cell? ⟨b, 4, none⟩ = some (.int .i64 d.r2)
  c5 : w.cell? ⟨b, 5, none⟩ = some (.string d.key)
  c6 : w.cell? ⟨b, 6, none⟩ = some (.slice A n c)
  c7 : w.cell? ⟨b, 7, none⟩ = some (.int .i64 d.prop)
  c8 : w.cell? ⟨b, 8, none⟩ = some (.int .i64 d.vk)
  c9 : w.cell? ⟨b, 9, none⟩ = some (.int .i64 d.vn)
  c10 : w.cell? ⟨b, 10, none⟩ = some (.string d.vt)
  c11 : w.cell? ⟨b, 11, none⟩ = some (.bool d.on)
theorem OAt.cs {w : World} {b : Nat} {d : OpD} {A : Option Addr} {n c : Nat} (h : OAt w b d A n c) : OCells w b d A n c :=
  ⟨cell_of h.own 0 rfl, cell_of h.own 1 rfl, cell_of h.own 2 rfl, cell_of h.own 3 rfl, cell_of h.own 4 rfl, cell_of h.own 5 rfl, cell_of h.own 6 rfl, cell_of h.own 7 rfl, cell_of h.own 8 rfl, cell_of h.own 9 rfl, cell_of h.own 10 rfl, cell_of h.own 11 rfl⟩

/-- What stands for the test of one stamp. -/
@[reducible] def nnF : Value := .func (.func 78) #[] #[]
theorem all_getD {l : List (Int × Int)} {f : Int × Int → Bool} (h : ∀ j, j < l.length → f (l.getD j (0, 0)) = true) : l.all f = true := by
  rw [List.all_eq_true]
  intro x hx
  obtain ⟨j, hj, rfl⟩ := List.getElem_of_mem hx
  have := h j hj
  rwa [List.getD_eq_getElem?_getD, List.getElem?_eq_getElem hj] at this
theorem any_getD {l : List (Int × Int)} {f : Int × Int → Bool} {j : Nat} (hj : j < l.length) (h : f (l.getD j (0, 0)) = false) : l.all f = false := by
  rw [Bool.eq_false_iff]
  intro ha
  rw [List.all_eq_true] at ha
  have := ha l[j] (List.getElem_mem hj)
  rw [List.getD_eq_getElem?_getD, List.getElem?_eq_getElem hj] at h
  simp only [Option.getD_some] at h
  rw [h] at this
  cases this
def allN (l : List (Int × Int)) : Bool := l.all fun p => sNode p.1 p.2

set_option maxRecDepth 100000 in
set_option maxHeartbeats 2000000 in
theorem IndexFunc_st (A : Option Addr) (n c : Nat) (l : List (Int × Int)) (w : World) (h : IsSt w A n c l) :
    Calls Tryd.prog 97 #[.slice A n c, nnF] w fun e w' => (∃ i : Int, e = .returned (.int .i64 i) ∧ decide (0 ≤ i) = !allN l) ∧ Below w.heap.size w w' := by
  have hl := h.len
  have hc := h.cap; have hm := h.max
  have HH := hid h
  clear h
  go_enter Tryd.func97, Tryd.ntmps97
  go_wp2_with fail
  go_loopw [8] (fun v8 wr => ∃ i : Nat, i ≤ n ∧ v8 = .int .i64 i ∧ (∀ j, j < i → sNode (l.getD j (0, 0)).1 (l.getD j (0, 0)).2 = true) ∧ Below w.heap.size w wr) (fun v8 _ => n - (intOf v8).toNat)
  case atStart => exact ⟨0, by omega, rfl, fun j hj => absurd hj (by omega), Below.refl _ _⟩
  case round =>
    obtain ⟨i, hi, rfl, hj, hb⟩ := hrel
    have HJ := hid hj; have HB := hid hb
    by_cases hlt : i < n
    · obtain ⟨b, o, rfl, hx⟩ := (HH.out.below hb).at_ (by omega)
      obtain ⟨h1, h2⟩ := hx i hlt
      clear hj hb hx
      generalize hp : l.getD i (0, 0) = p at *
      have HP := hid hp
      clear hp
      obtain ⟨x, y⟩ := p
      dsimp only at h1 h2
      go_wp2_with fail
      refine (notNode_any x y _).mono ?_
      rcases hs : sNode x y with _ | _
      all_goals
        have HS := hid hs
        rintro e w1 ⟨rfl, hb⟩
        have H1 := hid (below_then HB.out hb)
        clear hb hs h1 h2
      · have F := hid (show allN l = false from any_getD (j := i) (by omega) (by rw [HP.out]; exact HS.out))
        go_wp2_with fail
        go_ret
        exact ⟨⟨_, rfl, by rw [F.out]; simp⟩, H1.out⟩
      · go_wp2_with fail
        refine ⟨⟨i + 1, by omega, by go_num, fun j hj => ?_, H1.out⟩, by simp [intOf]; omega⟩
        by_cases e : j = i
        · subst e; rw [HP.out]; exact HS.out
        · exact HJ.out j (by omega)
    · have hin : i = n := by omega
      subst hin
      have F := hid (show allN l = true from all_getD (by rw [hl]; exact HJ.out))
      clear hj hb
      go_wp2_with fail
      go_ret
      exact ⟨⟨_, rfl, by rw [F.out]; rfl⟩, HB.out⟩
theorem ContainsFunc_st (A : Option Addr) (n c : Nat) (l : List (Int × Int)) (w : World) (h : IsSt w A n c l) :
    Calls Tryd.prog 77 #[.slice A n c, nnF] w fun e w' => e = .returned (.bool (!allN l)) ∧ Below w.heap.size w w' := by
  go_enter Tryd.func77, Tryd.ntmps77
  go_wp2_with fail
  refine (IndexFunc_st A n c l _ h).mono ?_
  rintro e w1 ⟨⟨i, rfl, hi⟩, hb⟩
  go_wp2_with fail
  go_ret
  exact ⟨by rw [← hi]; rfl, hb⟩
end Go.Proofs.YtnakanophilfhaaDoor
