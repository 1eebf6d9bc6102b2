/- The statement ValueForms: whatever comes in, the call returns true and nothing that was there has turned. No condition. -/
import Derived.Test.YtdbghnfmhgjkaaaDoorRows
import Derived.Test.YtdbghnfmhgjkaaaDoorVFok
import Derived.Test.YtdbghnfmhgjkaaaDoorVFno
import Derived.Test.YtdbghnfmhgjkaaaDoorK4
import Derived.Test.YtdbghnfmhgjkaaaDoorSh
import Derived.Test.YtdbghnfmhgjkaaaDoorCards
import Derived.Test.YtdbghnfmhgjkaaaDoorTie
import Derived.SevenTiedAt
import Derived.LaidMore
import Derived.Stop.Joined
import Derived.ProofKit
namespace Go.Proofs.YtdbghnfmhgjkaaaDoor
open Go.RowKit Go.Dio
set_option linter.unusedVariables false
theorem ValueForms_row (a0 : Array Value) (x0 : shValue.T) (a1 : Array Value) (x1 : shValue.T) (A : Option Addr) (n c : Nat) (xs : List UInt8) (s : ByteArray) (p : Int) (w : World)
    (h0 : shValue.reads w a0.toList x0) (h1 : shValue.reads w a1.toList x1) (h : IsB w A n c xs) (hn : n ≤ 140737488351232) (hs : s.size ≤ 140737488351232) (hpw : (Lit.int .i64 p).wf = true) (hp : PowTab w) (he : ErrsAt w) :
    Calls Tryd.prog 13 #[.agg a0, .agg a1, .slice A n c, .string s, .int .i64 p] w fun e w' => e = .returned (.bool true) ∧ Below w.heap.size w w' := by
  have hc := value_cells h0
  have hd := value_cells h1
  rw [value_cut h0, value_cut h1]
  rcases hr : vright x0.1 x0.2.1 x0.2.2.1 with _ | _
  · exact ValueForms_no _ _ _ _ _ _ A n c xs s p w hc.2.2.2 hd.2.2.2 h hn hs hp he hr
  · exact ValueForms_ok _ _ _ _ _ _ A n c xs s p w hc.2.2.2 hd.2.2.2 h hn hs hp he hr
end Go.Proofs.YtdbghnfmhgjkaaaDoor
namespace Go.Proofs.YtdbghnfmhgjkaaaDoor.valueForms
open Go.ChangeShapes Go.WideShapes Go.ChangeAt Go.RowKit Go.Dio
open Go.ChangeMaps (open_string shut_string)
set_option linter.unusedVariables false
theorem own : ownKnob Tryd.prog.godebug = none := by kernel_rfl
theorem laidOut : laidOutB Tryd.prog = true := by kernel_rfl
theorem door_met (os : Os) (args : Array Value) : laidMetH Tryd.prog Rows.valueFormsRow.laid ((World.doorLaid Tryd.prog 400 os).forCall (fun _ _ => 0) ⟨#[], args, []⟩).memory :=
  laidMetH_of_parts3 (fuel := 8) (laidMet_of_run' 8 (by kernel_rfl) (by kernel_rfl)) (by kernel_rfl) (by kernel_rfl)
theorem pow_met {W : World} (h : laidMetH Tryd.prog Rows.valueFormsRow.laid W) : PowTab W := by
  rw [MakeChecks.laidMetH_plain _ _ _ (by kernel_rfl)] at h
  have e : (Rows.laid_internal_strconv_uint64pow10 : DataW Unit) = Lib.tabData .u64 Lib.pow10Tab := by kernel_rfl
  obtain ⟨g, t, cs, fuel, p, hg, ht, hv, hd⟩ := Lib.laidMet.reads h (n := "internal/strconv.uint64pow10") (d := Lib.tabData .u64 Lib.pow10Tab) (by rw [← e]; simp [Rows.valueFormsRow])
  have hg' : Tryd.prog.globalNamed "internal/strconv.uint64pow10" = some 3 := by kernel_rfl
  obtain rfl := Option.some.inj (hg'.symm.trans hg)
  have ht' : (Tryd.prog.globals[3]?).map (·.type) = some 164 := by kernel_rfl
  obtain rfl := Option.some.inj (ht'.symm.trans ht)
  unfold PowTab Lib.TabIs
  rw [hv, ← Lib.cells_of_tab Tryd.underlying164 Tryd.underlying94 (by kernel_rfl) (by kernel_rfl) hd]
theorem errs_met {W : World} (h : laidMetH Tryd.prog Rows.valueFormsRow.laid W) : ErrsAt W := by
  rw [MakeChecks.laidMetH_plain _ _ _ (by kernel_rfl)] at h
  constructor
  · obtain ⟨g, t, cs, fuel, p, hg, ht, hv, hd⟩ := Lib.laidMet.reads h (n := "strconv.ErrSyntax") (d := Rows.laid_strconv_ErrSyntax) (by simp [Rows.valueFormsRow])
    have ht' : ∃ g, Tryd.prog.globalNamed "strconv.ErrSyntax" = some g ∧ (Tryd.prog.globals[g]?).map (·.type) = some 107 := ⟨1, by kernel_rfl, by kernel_rfl⟩
    obtain ⟨g', hg', ht'⟩ := ht'
    obtain rfl := Option.some.inj (hg'.symm.trans hg)
    obtain rfl := Option.some.inj (ht'.symm.trans ht)
    obtain ⟨l⟩ := cs
    obtain ⟨_, u, v, hl, _⟩ := iface_of_trod Tryd.underlying107 hd
    have hl' : l = [.iface u v] := hl
    subst hl'
    exact ⟨u, v, hv⟩
  · obtain ⟨g, t, cs, fuel, p, hg, ht, hv, hd⟩ := Lib.laidMet.reads h (n := "strconv.ErrRange") (d := Rows.laid_strconv_ErrRange) (by simp [Rows.valueFormsRow])
    have ht' : ∃ g, Tryd.prog.globalNamed "strconv.ErrRange" = some g ∧ (Tryd.prog.globals[g]?).map (·.type) = some 107 := ⟨2, by kernel_rfl, by kernel_rfl⟩
    obtain ⟨g', hg', ht'⟩ := ht'
    obtain rfl := Option.some.inj (hg'.symm.trans hg)
    obtain rfl := Option.some.inj (ht'.symm.trans ht)
    obtain ⟨l⟩ := cs
    obtain ⟨_, u, v, hl, _⟩ := iface_of_trod Tryd.underlying107 hd
    have hl' : l = [.iface u v] := hl
    subst hl'
    exact ⟨u, v, hv⟩
set_option maxRecDepth 100000 in
theorem lifted (os : Os) (started : os.Started) (H : Type) (enc : TypeId × Value → H) :
    ReturnsInHanded {} Tryd.checked os 13 .any (fun w args => (Rows.valueFormsSpec.pre enc Tryd.prog Tryd.f13 [] false w args ∧ laidMetH Tryd.prog Rows.valueFormsRow.laid w) ∧ sizedMet enc Tryd.prog Tryd.f13 (OpenSpec.ofChange Rows.valueFormsSpec) false w args)
      (Rows.valueFormsSpec.post enc Tryd.prog Tryd.f13 false true false false) := by
  refine returnsInHanded_of_change_and (C := Tryd.checked) (X := fun w _ => laidMetH Tryd.prog Rows.valueFormsRow.laid w) (fun _ _ _ hh h => h.of_heap hh) own started (by kernel_rfl) Tryd.func13
    (ChangeSpec.witness_shaped (enc := enc) (C := Tryd.checked) (os := os) (X := fun w _ => laidMetH Tryd.prog Rows.valueFormsRow.laid w) false (World.doorLaid Tryd.prog 400 os) #[.agg #[.int .i64 0, .int .i64 0, .string ByteArray.empty], .agg #[.int .i64 0, .int .i64 0, .string ByteArray.empty], .slice none 0 0, .string ByteArray.empty, .int .i64 0] 8 rfl (World.shaped_of_RefB (by kernel_rfl) (by kernel_rfl)) (by kernel_rfl) (by kernel_rfl) (by kernel_rfl) (door_met os _)) ?_
  intro W base args ds gs before hval0 hW hcnd hsz0 hL _
  have hsz : (DataW.weightsEach Tryd.prog (Tryd.f13.params.toList ++ Rows.valueFormsSpec.plain.varTypes Tryd.prog) (ds ++ gs)).all (· ≤ reachBytes) = true := hsz0
  have hval : ∀ (j : Nat) t v, Tryd.f13.params[j]? = some t → args[j]? = some v → Value.okWide Tryd.prog W .any base t v := hval0
  have hW' := hW
  obtain ⟨p, q, hA0, hV, rfl, hfz, hnd⟩ := hW
  have hA : DataW.TrodAll enc Tryd.prog W 0 (fun _ => true) true Tryd.f13.params.toList args.toList ds p := hA0
  rw [Tryd.params13] at hA hval hsz
  obtain ⟨v0, vs0, d0, ds0, p0, q0, hargs, rfl, rfl, h0, r0⟩ := trodAll_cons hA
  obtain ⟨v1, vs1, d1, ds1, p1, q1, rfl, rfl, rfl, h1, r1⟩ := trodAll_cons r0
  obtain ⟨v2, vs2, d2, ds2, p2, q2, rfl, rfl, rfl, h2, r2⟩ := trodAll_cons r1
  obtain ⟨v3, vs3, d3, ds3, p3, q3, rfl, rfl, rfl, h3, r3⟩ := trodAll_cons r2
  obtain ⟨v4, vs4, d4, ds4, p4, q4, rfl, rfl, rfl, h4, r4⟩ := trodAll_cons r3
  obtain ⟨rfl, rfl, rfl⟩ := trodAll_nil r4
  obtain rfl : args = #[v0, v1, v2, v3, v4] := by cases args; simp_all
  obtain ⟨rfl, rfl⟩ := trodVars_none hV
  obtain ⟨a0, rfl, _⟩ := okWide_struct Tryd.underlying49 (hval 0 49 v0 rfl rfl)
  have k0 := h0
  have lt0 : ∀ x ∈ p0, x.block < W.heap.size := by obtain ⟨m, hm⟩ := k0; exact DataW.trod_lt m _ _ _ hm
  obtain ⟨z0, w0⟩ := Sh.open shValue (by kernel_rfl) h0
  obtain ⟨a1, rfl, _⟩ := okWide_struct Tryd.underlying49 (hval 1 49 v1 rfl rfl)
  have k1 := h1
  have lt1 : ∀ x ∈ p1, x.block < W.heap.size := by obtain ⟨m, hm⟩ := k1; exact DataW.trod_lt m _ _ _ hm
  obtain ⟨z1, w1⟩ := Sh.open shValue (by kernel_rfl) h1
  obtain ⟨a2, len2, cap2, rfl⟩ := okWide_slice Tryd.underlying55 (hval 2 55 v2 rfl rfl)
  have k2 := h2
  have lt2 : ∀ x ∈ p2, x.block < W.heap.size := by obtain ⟨m, hm⟩ := k2; exact DataW.trod_lt m _ _ _ hm
  obtain ⟨z2, w2⟩ := isI_of_trod (k := .u8) Tryd.underlying55 Tryd.underlying5 (by kernel_rfl) h2
  have y2 : len2 * 1 ≤ 140737488351232 := Go.Dio.sized_ints hsz (j := 2) (t := 55) rfl rfl Tryd.underlying55 Tryd.underlying5 (by kernel_rfl) (by kernel_rfl) h2
  obtain ⟨a3, rfl, rfl, rfl, y3⟩ := open_string Tryd.underlying9 (hval 3 9 v3 rfl rfl) h3
  have w3 : a3.size ≤ 140737488351232 := by
    have z := sized_string hsz (j := 3) (t := 9) rfl rfl
    rw [Array.length_toList] at z
    exact z
  obtain ⟨a4, rfl, rfl, rfl, w4⟩ := open_int Tryd.underlying3 (hval 4 3 v4 rfl rfl) h4
  clear hA0 hval0 hsz0 hsz
  refine (ValueForms_row a0 z0 a1 z1 a2 len2 cap2 _ a3 a4 W w0 w1 (isB_of_isI w2) (by omega) w3 w4 (pow_met hL) (errs_met hL)).mono fun e W' ⟨he, bel⟩ => ?_
  subst he
  exact ⟨_, rfl, _, _, _, [], _, [], hW', trodAll_mk1 (shut_bool Tryd.underlying4 _), (trodAll_cons_mk (Below.trod laidOut (by kernel_rfl) (of_decide_eq_true (by kernel_rfl)) k0 bel lt0) (trodAll_cons_mk (Below.trod laidOut (by kernel_rfl) (of_decide_eq_true (by kernel_rfl)) k1 bel lt1) (trodAll_cons_mk (Below.trod laidOut (by kernel_rfl) (of_decide_eq_true (by kernel_rfl)) k2 bel lt2) (trodAll_cons_mk (shut_string Tryd.underlying9 y3) (trodAll_cons_mk (shut_int Tryd.underlying3 w4) trodAll_mk0))))), rfl, bel.frame _, fun h => by cases h⟩
theorem over : Rows.valueFormsRow.holds Tryd.pinned (OpenSpec.ofChange Rows.valueFormsSpec) :=
  OpenClaim.holds_of_wide 13 Tryd.f13 rfl rfl rfl rfl rfl rfl rfl ⟨rfl, rfl, rfl, rfl, rfl⟩ rfl rfl rfl rfl rfl (by kernel_rfl) Tryd.func13 (by kernel_rfl)
    (of_decide_eq_true (by kernel_rfl)) (by unfold Func.isWrapper; first | (rw [if_pos (by decide +kernel)]; kernel_rfl) | (rw [if_neg (by decide +kernel)]; exact ⟨rfl, rfl⟩))
    (fun os started H enc _ => lifted os started H enc)
end Go.Proofs.YtdbghnfmhgjkaaaDoor.valueForms
namespace Go.Proofs.YtdbghnfmhgjkaaaDoor
/-- The row's tied card. -/
theorem valueForms_holds : Rows.ValueFormsCardSaid :=
  Claim7.holds_tied_plain_at .later [] Rows.valueFormsCard.laidKinds true Rows.valueFormsCard.stood.harness true
    valueForms.over (fun _ h => by cases h) (by kernel_rfl) (fun _ h => by cases h) valueForms_row_tie rfl ⟨rfl, rfl⟩ (by kernel_rfl) rfl
    (fun f fn hf hfn => by
      obtain rfl : f = 13 := Option.some.inj ((show Tryd.prog.funcNamed "diorama/dioramalaw03.ValueForms" = some 13 by kernel_rfl).symm.trans hf) |>.symm
      obtain rfl : fn = Tryd.f13 := (Option.some.inj (Tryd.func13.symm.trans hfn)).symm
      exact ⟨by kernel_rfl, fun j t ht => by
        rw [Tryd.params13] at ht
        have hm : t ∈ [49, 49, 55, 9, 3] := by simpa using Array.mem_of_getElem? ht
        have hall : ([49, 49, 55, 9, 3].all fun u => !Tryd.prog.wantsStandIn u) = true := by kernel_rfl
        exact (show Tryd.prog.wantsStandIn t = false by simpa using List.all_eq_true.1 hall t hm)⟩)
    (by kernel_rfl)
#print axioms valueForms_holds
end Go.Proofs.YtdbghnfmhgjkaaaDoor
