/- Layer 7: the calls on ops, of an op as one word. -/
import Derived.Test.YtnakanophilfhaaDoorOP
import Derived.Test.YtnakanophilfhaaDoorOT
import Derived.Test.YtnakanophilfhaaDoorOpT
import Derived.Test.YtnakanophilfhaaDoorOpO
namespace Go.Proofs.YtnakanophilfhaaDoor
open Go.RowKit Go.Dio
set_option linter.unusedVariables false
set_option linter.unusedSimpArgs false
/-- An op lies in the world: its path in a slice, its texts no longer than texts are. -/
structure OpIs (w : World) (d : OpD) (A : Option Addr) (n c : Nat) : Prop where
  st : IsSt w A n c d.path
  key : d.key.size ≤ 9223372036854775807
  vt : d.vt.size ≤ 9223372036854775807
theorem OpIs.below {w w' : World} {d : OpD} {A : Option Addr} {n c : Nat} (h : OpIs w d A n c) (hb : Below w.heap.size w w') : OpIs w' d A n c := ⟨h.st.below hb, h.key, h.vt⟩
theorem ORight_d (d : OpD) (A : Option Addr) (n c : Nat) (w : World) (h : OpIs w d A n c) (hg : RootsAt w) : Calls Tryd.prog 29 #[opv d A n c] w fun e w' => e = .returned (.bool (oright d)) ∧ Below w.heap.size w w' :=
  ORight_any d.k d.n1 d.n2 d.r1 d.r2 d.key d.path d.prop d.vk d.vn d.vt d.on A n c w h.st hg h.vt h.key
theorem OPut_d (d : OpD) (A : Option Addr) (n c : Nat) (w : World) (h : OpIs w d A n c) (hg : RootsAt w) : Calls Tryd.prog 12 #[opv d A n c] w fun e w' => (oright d = true → OutB2 5 w (opB d) 0 e w') ∧ (oright d = false → e = .returned (.tuple #[.slice none 0 0, .int .i64 1]) ∧ Below w.heap.size w w') :=
  OPut_any d.k d.n1 d.n2 d.r1 d.r2 d.key d.path d.prop d.vk d.vn d.vt d.on A n c w h.st hg h.vt h.key
theorem OSame_d (d d' : OpD) (A : Option Addr) (n c : Nat) (A' : Option Addr) (n' c' : Nat) (w : World) (h : OpIs w d A n c) (h' : OpIs w d' A' n' c') : Calls Tryd.prog 15 #[opv d A n c, opv d' A' n' c'] w fun e w' => e = .returned (.bool (osame d d')) ∧ Below w.heap.size w w' :=
  OSame_any d.k d.n1 d.n2 d.r1 d.r2 d.key d.path d.prop d.vk d.vn d.vt d.on A n c d'.k d'.n1 d'.n2 d'.r1 d'.r2 d'.key d'.path d'.prop d'.vk d'.vn d'.vt d'.on A' n' c' d d' rfl rfl w h.st h'.st
theorem Own7_d (d : OpD) (A : Option Addr) (n c : Nat) (w : World) (h : OpIs w d A n c) (hn : n ≤ 500) : Calls Tryd.prog 13 #[opv d A n c] w fun e w' => (∃ A' c', e = .returned (opv d A' n c') ∧ OpIs w' d A' n c') ∧ Below w.heap.size w w' :=
  (Own7_any d.k d.n1 d.n2 d.r1 d.r2 d.key d.path d.prop d.vk d.vn d.vt d.on A n c w h.st hn).mono fun e w' ⟨⟨A', c', e1, h1⟩, hb⟩ => ⟨⟨A', c', e1, h1, h.key, h.vt⟩, hb⟩
/-- Opened bytes, and an op read of them. -/
theorem OTake_d (base rb : Nat) (s : Rst) (w : World) (h : RdrAt w base rb s) (hg : RootsAt w) (hb : 2 ≤ base) (hs : (tOp s).1.key.size ≤ 9223372036854775807 ∧ (tOp s).1.vt.size ≤ 9223372036854775807) :
    Calls Tryd.prog 23 #[.pointer (some ⟨rb, 0, none⟩)] w fun e w' => ∃ A n c, e = .returned (opv (tOp s).1 A n c) ∧ OpIs w' (tOp s).1 A n c ∧ (∀ a, A = some a → w.heap.size ≤ a.block ∧ a.block < w'.heap.size) ∧ RdrAt w' base rb (tOp s).2 ∧ w.grownBy w' (some rb) :=
  (OTake_any base rb s w h hg hb).mono fun e w' ⟨A, n, c, h1, h2, h3, h4, h5, _⟩ => ⟨A, n, c, h1, ⟨h2, hs.1, hs.2⟩, h3, h4, h5⟩
theorem OTake_e (base rb : Nat) (s : Rst) (w : World) (h : RdrAt w base rb s) (hg : RootsAt w) (hb : 2 ≤ base) :
    Calls Tryd.prog 23 #[.pointer (some ⟨rb, 0, none⟩)] w fun e w' => ∃ A n c, e = .returned (opv (tOp s).1 A n c) ∧ OpIs w' (tOp s).1 A n c ∧ (∀ a, A = some a → w.heap.size ≤ a.block ∧ a.block < w'.heap.size) ∧ RdrAt w' base rb (tOp s).2 ∧ w.grownBy w' (some rb) :=
  (OTake_any base rb s w h hg hb).mono fun e w' ⟨A, n, c, h1, h2, h3, h4, h5, h6, h7⟩ => ⟨A, n, c, h1, ⟨h2, h6, h7⟩, h3, h4, h5⟩
theorem RootsAt.two {w : World} (h : RootsAt w) : 2 ≤ w.heap.size := by
  have := World.block_lt_of_cell? _ _ h.c10
  exact this
end Go.Proofs.YtnakanophilfhaaDoor
