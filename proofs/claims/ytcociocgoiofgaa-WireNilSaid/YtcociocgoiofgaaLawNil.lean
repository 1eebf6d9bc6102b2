/- WireNil: the walk. -/
import Derived.Test.YtcociocgoiofgaaLaw1
namespace Go.Proofs.Ytcociocgoiofgaa
open Go.RowKit Go.Dio
set_option linter.unusedVariables false
set_option linter.unusedSimpArgs false

/-- No reader, or one that nobody made. -/
def NoRdr (w : World) (v : Value) : Prop := v = .pointer none ∨ ∃ rb, v = .pointer (some ⟨rb, 0, none⟩) ∧ w.heap[rb]? = some (.cells #[.slice none 0 0, .int .i64 0, .bool false] 136 (0, 0))

set_option maxRecDepth 100000 in
set_option maxHeartbeats 4000000 in
theorem WireNil_row (most : Int) (w : World) (_hk : (Lit.int .i64 most).wf = true) :
    Calls Try.prog 13 #[.int .i64 most] w fun e w' => e = .returned (.bool true) ∧ Below w.heap.size w w' := by
  clear _hk
  go_enter Try.func13, Try.ntmps13
  go_wp2_with fail
  go_loopw [3, 4] (fun v3 v4 wr => ∃ i : Nat, i ≤ 2 ∧ v4 = .int .i64 i ∧ NoRdr wr v3 ∧ Below w.heap.size w wr) (fun _ v4 _ => 2 - (intOf v4).toNat)
  case atStart => exact ⟨0, by omega, rfl, .inl rfl, Below.refl _ _⟩
  case round =>
    obtain ⟨i, hi, rfl, hr, hb⟩ := hrel
    have HB := hid hb; clear hb
    by_cases hlt : i < 2
    · rcases hr with rfl | ⟨rb, rfl, hr⟩
      · go_wp2
        go_end0
        go_wp2
        go_roundw
        case rel => exact ⟨i + 1, by omega, by go_num, .inr ⟨_, rfl, heap_alloc_new _ _⟩, below_new HB.out _⟩
        case measure => simp [intOf]; omega
      · have c0 : wr.cell? ⟨rb, 0, none⟩ = some (.slice none 0 0) := by simp [World.cell?, hr]
        have c1 : wr.cell? ⟨rb, 1, none⟩ = some (.int .i64 0) := by simp [World.cell?, hr]
        have c2 : wr.cell? ⟨rb, 2, none⟩ = some (.bool false) := by simp [World.cell?, hr]
        clear hr
        go_wp2
        go_end0
        go_wp2
        go_roundw
        case rel => exact ⟨i + 1, by omega, by go_num, .inr ⟨_, rfl, heap_alloc_new _ _⟩, below_new HB.out _⟩
        case measure => simp [intOf]; omega
    · clear hr
      go_wp2_with fail
      refine (knows1_any _).mono ?_
      rintro e w1 ⟨rfl, hb⟩
      have HB1 := hid (below_then HB.out hb)
      clear hb
      go_wp2_with fail
      go_ret
      exact ⟨rfl, HB1.out⟩
end Go.Proofs.Ytcociocgoiofgaa
