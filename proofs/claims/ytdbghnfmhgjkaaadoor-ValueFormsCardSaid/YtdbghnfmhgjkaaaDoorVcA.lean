/- Layer 3: values as text; Atoi at any text. -/
import Derived.Test.YtdbghnfmhgjkaaaDoorStP
import Derived.Test.YtdbghnfmhgjkaaaDoorVbB
namespace Go.Proofs.YtdbghnfmhgjkaaaDoor
open Go.RowKit Go.Dio
set_option linter.unusedVariables false
set_option linter.unusedSimpArgs false

/-- The two errors of strconv stand in their variables. -/
def ErrsAt (w : World) : Prop := (∃ tp p, w.var? Tryd.prog "strconv.ErrSyntax" = some #[.iface tp p]) ∧ (∃ tp p, w.var? Tryd.prog "strconv.ErrRange" = some #[.iface tp p])
theorem var_below {w w' : World} {name : String} {g : Nat} {cs : Array Value} (hg : Tryd.prog.globalNamed name = some g) (h : w.var? Tryd.prog name = some cs) (hb : Below w.heap.size w w') : w'.var? Tryd.prog name = some cs := by
  unfold World.var? at h ⊢
  rw [hg] at h ⊢
  simp only [Option.bind_some] at h ⊢
  have hlt : g < w.heap.size := by
    rcases Nat.lt_or_ge g w.heap.size with h' | h'
    · exact h'
    · rw [Array.getElem?_eq_none h'] at h; cases h
  rw [hb.block g hlt]
  exact h
theorem ErrsAt.below {w w' : World} (h : ErrsAt w) (hb : Below w.heap.size w w') : ErrsAt w' := by
  obtain ⟨⟨t1, p1, h1⟩, ⟨t2, p2, h2⟩⟩ := h
  exact ⟨⟨t1, p1, var_below (g := 1) (by kernel_rfl) h1 hb⟩, ⟨t2, p2, var_below (g := 2) (by kernel_rfl) h2 hb⟩⟩

/-- What Atoi answers. -/
def AtoiOut (l : List UInt8) (n : Int) (er : Value) : Prop := (Lib.atoiAll l = .ok n ∧ er = .nilIface ∧ I64 n) ∨ ((∀ v, Lib.atoiAll l ≠ .ok v) ∧ (∃ t p, er = .iface t p) ∧ I64 n)
theorem Atoi_all (s : ByteArray) (w : World) (hlim : s.size ≤ 281474976710656) (he : ErrsAt w) :
    Calls Tryd.prog 83 #[.string s] w fun e w' => (∃ n er, e = .returned (.tuple #[.int .i64 n, er]) ∧ AtoiOut s.data.toList n er) ∧ Below w.heap.size w w' := by
  obtain ⟨⟨t1, p1, h1⟩, ⟨t2, p2, h2⟩⟩ := he
  rcases hx : Lib.atoiAll s.data.toList with v | _ | _
  · refine (Tryd.strconv_Atoi_ok s (by omega) v hx w).mono ?_
    rintro e w' ⟨rfl, h⟩
    refine ⟨⟨v, _, rfl, .inl ⟨hx, rfl, Lib.atoiAll_bounds hx⟩⟩, ?_⟩
    rcases h with rfl | ⟨t, rfl⟩
    · exact Below.refl _ _
    · exact below_bytes w _ t
  · refine (Any.strconv_Atoi_syntax_var Tryd.laysC172 s hlim hx t1 p1 w h1).mono ?_
    rintro e w' ⟨N, rfl, _, _, hb⟩
    exact ⟨⟨0, _, rfl, .inr ⟨(fun v hv => by rw [hx] at hv; cases hv), ⟨_, _, rfl⟩, by decide⟩⟩, hb⟩
  · refine (Any.strconv_Atoi_range_var Tryd.laysC172 s hlim hx t2 p2 w h2).mono ?_
    rintro e w' ⟨N, rfl, _, _, hb⟩
    exact ⟨⟨_, _, rfl, .inr ⟨(fun v hv => by rw [hx] at hv; cases hv), ⟨_, _, rfl⟩, Lib.atoiSat_bounds _⟩⟩, hb⟩

/-- A value as text. -/
def prV (k n : Int) (s : ByteArray) : List UInt8 :=
  if vright k n s = true then
    (if k = 0 then [110, 111, 110, 101] else if k = 3 then 34 :: (s.data.toList ++ [34]) else if k = 1 then Lib.itoa n else if k = 2 then Lib.itoa n ++ [102] else if n = 1 then [121, 101, 115] else [110, 111])
  else []
set_option maxRecDepth 100000 in
set_option maxHeartbeats 2000000 in
theorem VPrint_any (k n : Int) (s : ByteArray) (w : World) (hs : s.size ≤ 9223372036854775807) (hp : PowTab w) :
    Calls Tryd.prog 63 #[vv k n s] w fun e w' => e = .returned (.string (mkS (prV k n s))) ∧ Below w.heap.size w w' := by
  have V0 := hid (VAt.new w k n s _ rfl)
  have P0 := hid (hp.below (below_alloc1 w (vo k n s)))
  clear hp
  rcases hr : vright k n s with _ | _
  · have HP := hid (show prV k n s = [] by rw [prV, if_neg (by simp [hr])])
    have HR := hid hr
    clear hr
    go_enter Tryd.func63, Tryd.ntmps63
    go_wp2_with fail
    refine (VRight_any k n s _ hs).mono ?_
    rw [HR.out]
    rintro e w1 ⟨rfl, hb1⟩
    have H1 := hid (below_then (below_alloc1 _ _) hb1)
    clear hb1
    go_wp2_with fail
    go_ret
    exact ⟨by rw [HP.out]; rfl, H1.out⟩
  · have HP := hid (show prV k n s = _ by rw [prV, if_pos hr])
    have HC := hid (vright_cases hr)
    have HR := hid hr
    clear hr
    go_enter Tryd.func63, Tryd.ntmps63
    go_wp2_with fail
    refine (VRight_any k n s _ hs).mono ?_
    rw [HR.out]
    rintro e w1 ⟨rfl, hb1⟩
    have H1 := hid (below_then (below_alloc1 _ _) hb1)
    have V1 := hid (V0.out.below hb1)
    have P1 := hid (P0.out.below hb1)
    clear hb1
    have a0 := V1.out.c0; have a1 := V1.out.c1; have a2 := V1.out.c2
    rcases HC.out with ⟨rfl, rfl, rfl⟩ | ⟨hk, hn, rfl⟩ | ⟨rfl, rfl, hg⟩ | ⟨rfl, hn, rfl⟩
    · go_wp2_with fail
      go_ret
      exact ⟨by rw [HP.out]; rfl, H1.out⟩
    · have hin : I64 n := by constructor <;> omega
      have hil := itoa_len n hin.1 hin.2
      rcases hk with rfl | rfl
      · go_wp2_with fail
        refine (Itoa_any n _ hin.1 hin.2 P1.out).mono ?_
        rintro e w2 ⟨rfl, hb⟩
        have H2 := hid (below_then H1.out hb)
        clear hb
        go_wp2_with fail
        go_ret
        exact ⟨by rw [HP.out]; rfl, H2.out⟩
      · go_wp2_with fail
        refine (Itoa_any n _ hin.1 hin.2 P1.out).mono ?_
        rintro e w2 ⟨rfl, hb⟩
        have H2 := hid (below_then H1.out hb)
        have hsz : (mkS (Lib.itoa n)).size + 1 ≤ 9223372036854775807 := by rw [mkS_size]; omega
        clear hb
        go_wp2_with fail
        go_ret
        exact ⟨by rw [HP.out]; rfl, H2.out⟩
    · have hg64 := goodB_len hg
      clear hg
      go_wp2_with fail
      go_ret
      refine ⟨?_, H1.out⟩
      have e : ((⟨#[34]⟩ : ByteArray) ++ s ++ ⟨#[34]⟩) = mkS (34 :: (s.data.toList ++ [34])) := by
        have e1 : (⟨#[34]⟩ : ByteArray) = mkS [34] := rfl
        conv => lhs; rw [← mkS_data s, e1]
        rw [mkS_app, mkS_app, List.append_assoc]
        rfl
      rw [HP.out, if_neg (by decide), if_pos trivial, ← e]
      rfl
    · rcases hn with rfl | rfl
      · go_wp2_with fail
        go_ret
        exact ⟨by rw [HP.out]; rfl, H1.out⟩
      · go_wp2_with fail
        go_ret
        exact ⟨by rw [HP.out]; rfl, H1.out⟩
end Go.Proofs.YtdbghnfmhgjkaaaDoor
