/- Layer 7: Same. -/
import Derived.Test.YtnakanophilfhaaDoorOpS
namespace Go.Proofs.YtnakanophilfhaaDoor
open Go.RowKit Go.Dio
set_option linter.unusedVariables false
set_option linter.unusedSimpArgs false

/-- The same? -/
def osame (d d' : OpD) : Bool := decide (d.path = d'.path) && ((d.k == d'.k) && ((d.n1 == d'.n1 && d.n2 == d'.n2) && ((d.r1 == d'.r1 && d.r2 == d'.r2) && ((d.key.toList == d'.key.toList) && ((d.prop == d'.prop) && ((d.vk == d'.vk && (d.vn == d'.vn && d.vt.toList == d'.vt.toList)) && (d.on == d'.on)))))))
theorem bytes_eq {s t : ByteArray} (h : s.toList = t.toList) : s = t := by
  rw [ByteArray.toList_eq, ByteArray.toList_eq] at h
  rw [← mkS_data s, ← mkS_data t, h]
theorem osame_iff (d d' : OpD) : osame d d' = true ↔ d = d' := by
  obtain ⟨k, n1, n2, r1, r2, key, path, prop, vk, vn, vt, on⟩ := d
  obtain ⟨k', m1, m2, s1, s2, key', path', prop', uk, un, ut, on'⟩ := d'
  simp only [osame, Bool.and_eq_true, decide_eq_true_eq, beq_iff_eq, OpD.mk.injEq]
  constructor
  · rintro ⟨h1, h2, ⟨h3, h4⟩, ⟨h5, h6⟩, h7, h8, ⟨h9, h10, h11⟩, h12⟩
    exact ⟨h2, h3, h4, h5, h6, bytes_eq h7, h1, h8, h9, h10, bytes_eq h11, h12⟩
  · rintro ⟨h2, h3, h4, h5, h6, h7, h1, h8, h9, h10, h11, h12⟩
    exact ⟨h1, h2, ⟨h3, h4⟩, ⟨h5, h6⟩, by rw [h7], h8, ⟨h9, h10, by rw [h11]⟩, h12⟩
theorem osame_refl (d : OpD) : osame d d = true := (osame_iff d d).2 rfl
theorem OAt.nil6 {w : World} {b : Nat} {d : OpD} {A : Option Addr} {n c : Nat} (h : OAt w b d A n c) : OAt (w.setCell ⟨b, 6, none⟩ (.slice none 0 0)) b d none 0 0 := ⟨by simp [World.setCell, Array.getElem?_modify, h.own]⟩
theorem OAt.off {w : World} {b : Nat} {d : OpD} {A : Option Addr} {n c : Nat} (h : OAt w b d A n c) (b' i : Nat) (u : Value) (hne : b ≠ b') : OAt (w.setCell ⟨b', i, none⟩ u) b d A n c := ⟨by rw [Below.heap_setCell w ⟨b', i, none⟩ u b hne]; exact h.own⟩

set_option maxRecDepth 100000 in
set_option maxHeartbeats 8000000 in
theorem OSame_any (k n1 n2 r1 r2 : Int) (key : ByteArray) (path : List (Int × Int)) (prop vk vn : Int) (vt : ByteArray) (on : Bool) (A : Option Addr) (n c : Nat)
    (k' m1 m2 s1 s2 : Int) (key' : ByteArray) (path' : List (Int × Int)) (prop' uk un : Int) (ut : ByteArray) (on' : Bool) (A' : Option Addr) (n' c' : Nat) (d d' : OpD)
    (hd : d = ⟨k, n1, n2, r1, r2, key, path, prop, vk, vn, vt, on⟩) (hd' : d' = ⟨k', m1, m2, s1, s2, key', path', prop', uk, un, ut, on'⟩) (w : World) (hl : IsSt w A n c path) (hl' : IsSt w A' n' c' path') :
    Calls Tryd.prog 15 #[opv ⟨k, n1, n2, r1, r2, key, path, prop, vk, vn, vt, on⟩ A n c, opv ⟨k', m1, m2, s1, s2, key', path', prop', uk, un, ut, on'⟩ A' n' c'] w fun e w' => e = .returned (.bool (osame d d')) ∧ Below w.heap.size w w' := by
  have O0 := hid ((OAt.new w ⟨k, n1, n2, r1, r2, key, path, prop, vk, vn, vt, on⟩ A n c _ rfl).below (below_alloc1 _ (oo ⟨k', m1, m2, s1, s2, key', path', prop', uk, un, ut, on'⟩ A' n' c')))
  have P0 := hid (OAt.new (w.alloc (oo ⟨k, n1, n2, r1, r2, key, path, prop, vk, vn, vt, on⟩ A n c)) ⟨k', m1, m2, s1, s2, key', path', prop', uk, un, ut, on'⟩ A' n' c' (w.heap.size + 1) (by simp))
  have H0 := hid (below_alloc2 w (oo ⟨k, n1, n2, r1, r2, key, path, prop, vk, vn, vt, on⟩ A n c) (oo ⟨k', m1, m2, s1, s2, key', path', prop', uk, un, ut, on'⟩ A' n' c'))
  have L0 := hid (hl.below H0.out)
  have L0' := hid (hl'.below H0.out)
  have FO := hid (show osame d d' = (decide (path = path') && ((k == k') && ((n1 == m1 && n2 == m2) && ((r1 == s1 && r2 == s2) && ((key.toList == key'.toList) && ((prop == prop') && ((vk == uk && (vn == un && vt.toList == ut.toList)) && (on == on')))))))) by rw [hd, hd']; rfl)
  clear hl hl' hd hd'
  go_enter Tryd.func15, Tryd.ntmps15
  go_wp2_with fail
  refine (Equal_st A n c path A' n' c' path' _ L0.out L0'.out).mono ?_
  rcases hp : decide (path = path') with _ | _
  · have F := hid (show osame d d' = false by rw [FO.out, hp]; rfl)
    clear hp
    rintro e w1 ⟨rfl, hdr⟩
    have H1 := hid (below_then H0.out hdr.below)
    clear hdr
    go_wp2_with fail
    go_ret
    exact ⟨by rw [F.out]; rfl, H1.out⟩
  · rw [hp, Bool.true_and] at FO
    clear hp
    rintro e w1 ⟨rfl, hdr⟩
    have H1 := hid (below_then H0.out hdr.below)
    have O1 := hid (O0.out.below hdr.below)
    have P1 := hid (P0.out.below hdr.below)
    clear hdr
    have f0 := O1.out.fz 6; have f1 := P1.out.fz 6
    have y6 := O1.out.cs.c6; have z6 := P1.out.cs.c6
    have l1 := P1.out.lt
    have O4 := hid ((O1.out.nil6).off (w.heap.size + 1) 6 (.slice none 0 0) (by omega))
    have P4 := hid ((P1.out.off w.heap.size 6 (.slice none 0 0) (by omega)).nil6)
    have HF := hid (below_put (below_put H1.out w.heap.size 6 (.slice none 0 0) (Nat.le_refl _)) (w.heap.size + 1) 6 (.slice none 0 0) (by omega))
    rename_i Ko ao K1 a1 K0 a0
    have AO := hid ao
    clear ao
    go_wp2_with fail
    refine AO.out _ _ ?_
    clear AO
    refine wp_seq_k (fun K3 a3 => ?_)
    have A3 := hid a3
    clear a3
    go_wp2_with fail
    refine A3.out _ _ ?_
    clear A3
    refine wp_seq_k (fun K2 a2 => ?_)
    refine wp_region_lit ?_
    refine inT (v := ?_) (by rfl) ?_ ?_
    case' refine_2 => (go_simp; try with_reducible rfl)
    try simp only [Act.put, List.setIfInBounds_toArray, List.set_cons_zero, List.set_cons_succ]
    refine inT (v := ?_) (by rfl) ?_ ?_
    case' refine_2 => (have q := O4.out.cs; have y0 := q.c0; have y1 := q.c1; have y2 := q.c2; have y3 := q.c3; have y4 := q.c4; have y5 := q.c5; have y7 := q.c7; have y8 := q.c8; have y9 := q.c9; have y10 := q.c10; have y11 := q.c11; clear q; have q := P4.out.cs; have z0 := q.c0; have z1 := q.c1; have z2 := q.c2; have z3 := q.c3; have z4 := q.c4; have z5 := q.c5; have z7 := q.c7; have z8 := q.c8; have z9 := q.c9; have z10 := q.c10; have z11 := q.c11; clear q; go_simp; try with_reducible rfl)
    try simp only [Act.put, List.setIfInBounds_toArray, List.set_cons_zero, List.set_cons_succ]
    refine inT (v := ?_) (by rfl) ?_ ?_
    case' refine_2 => (go_simp; try with_reducible rfl)
    try simp only [Act.put, List.setIfInBounds_toArray, List.set_cons_zero, List.set_cons_succ]
    refine inT (v := ?_) (by rfl) ?_ ?_
    case' refine_2 => (have q := O4.out.cs; have y0 := q.c0; have y1 := q.c1; have y2 := q.c2; have y3 := q.c3; have y4 := q.c4; have y5 := q.c5; have y7 := q.c7; have y8 := q.c8; have y9 := q.c9; have y10 := q.c10; have y11 := q.c11; clear q; have q := P4.out.cs; have z0 := q.c0; have z1 := q.c1; have z2 := q.c2; have z3 := q.c3; have z4 := q.c4; have z5 := q.c5; have z7 := q.c7; have z8 := q.c8; have z9 := q.c9; have z10 := q.c10; have z11 := q.c11; clear q; go_simp; try with_reducible rfl)
    try simp only [Act.put, List.setIfInBounds_toArray, List.set_cons_zero, List.set_cons_succ]
    refine inT (v := ?_) (by rfl) ?_ ?_
    case' refine_2 => (go_simp; try with_reducible rfl)
    try simp only [Act.put, List.setIfInBounds_toArray, List.set_cons_zero, List.set_cons_succ]
    rcases hc1 : (k == k') with _ | _
    · have F := hid (show osame d d' = false by rw [FO.out, hc1]; simp)
      refine inT (v := ?_) (by rfl) ?_ ?_
      case' refine_2 => (go_simp; try with_reducible rfl)
      try simp only [Act.put, List.setIfInBounds_toArray, List.set_cons_zero, List.set_cons_succ]
      refine inU (by rfl) ?_
      try simp only [Act.put, List.setIfInBounds_toArray, List.set_cons_zero, List.set_cons_succ]
      refine inU (by rfl) ?_
      try simp only [Act.put, List.setIfInBounds_toArray, List.set_cons_zero, List.set_cons_succ]
      refine inU (by rfl) ?_
      try simp only [Act.put, List.setIfInBounds_toArray, List.set_cons_zero, List.set_cons_succ]
      refine inU (by rfl) ?_
      try simp only [Act.put, List.setIfInBounds_toArray, List.set_cons_zero, List.set_cons_succ]
      refine inU (by rfl) ?_
      try simp only [Act.put, List.setIfInBounds_toArray, List.set_cons_zero, List.set_cons_succ]
      refine inT (v := ?_) (by rfl) ?_ ?_
      case' refine_2 => (go_simp; try with_reducible rfl)
      try simp only [Act.put, List.setIfInBounds_toArray, List.set_cons_zero, List.set_cons_succ]
      refine inT (v := ?_) (by rfl) ?_ ?_
      case' refine_2 => (go_simp; try with_reducible rfl)
      try simp only [Act.put, List.setIfInBounds_toArray, List.set_cons_zero, List.set_cons_succ]
      refine inU (by rfl) ?_
      try simp only [Act.put, List.setIfInBounds_toArray, List.set_cons_zero, List.set_cons_succ]
      refine inU (by rfl) ?_
      try simp only [Act.put, List.setIfInBounds_toArray, List.set_cons_zero, List.set_cons_succ]
      refine inU (by rfl) ?_
      try simp only [Act.put, List.setIfInBounds_toArray, List.set_cons_zero, List.set_cons_succ]
      refine inU (by rfl) ?_
      try simp only [Act.put, List.setIfInBounds_toArray, List.set_cons_zero, List.set_cons_succ]
      refine inU (by rfl) ?_
      try simp only [Act.put, List.setIfInBounds_toArray, List.set_cons_zero, List.set_cons_succ]
      refine inT (v := ?_) (by rfl) ?_ ?_
      case' refine_2 => (go_simp; try with_reducible rfl)
      try simp only [Act.put, List.setIfInBounds_toArray, List.set_cons_zero, List.set_cons_succ]
      refine inT (v := ?_) (by rfl) ?_ ?_
      case' refine_2 => (go_simp; try with_reducible rfl)
      try simp only [Act.put, List.setIfInBounds_toArray, List.set_cons_zero, List.set_cons_succ]
      refine inU (by rfl) ?_
      try simp only [Act.put, List.setIfInBounds_toArray, List.set_cons_zero, List.set_cons_succ]
      refine inU (by rfl) ?_
      try simp only [Act.put, List.setIfInBounds_toArray, List.set_cons_zero, List.set_cons_succ]
      refine inU (by rfl) ?_
      try simp only [Act.put, List.setIfInBounds_toArray, List.set_cons_zero, List.set_cons_succ]
      refine inU (by rfl) ?_
      try simp only [Act.put, List.setIfInBounds_toArray, List.set_cons_zero, List.set_cons_succ]
      refine inU (by rfl) ?_
      try simp only [Act.put, List.setIfInBounds_toArray, List.set_cons_zero, List.set_cons_succ]
      refine inT (v := ?_) (by rfl) ?_ ?_
      case' refine_2 => (go_simp; try with_reducible rfl)
      try simp only [Act.put, List.setIfInBounds_toArray, List.set_cons_zero, List.set_cons_succ]
      refine inT (v := ?_) (by rfl) ?_ ?_
      case' refine_2 => (go_simp; try with_reducible rfl)
      try simp only [Act.put, List.setIfInBounds_toArray, List.set_cons_zero, List.set_cons_succ]
      refine inU (by rfl) ?_
      try simp only [Act.put, List.setIfInBounds_toArray, List.set_cons_zero, List.set_cons_succ]
      refine inU (by rfl) ?_
      try simp only [Act.put, List.setIfInBounds_toArray, List.set_cons_zero, List.set_cons_succ]
      refine inU (by rfl) ?_
      try simp only [Act.put, List.setIfInBounds_toArray, List.set_cons_zero, List.set_cons_succ]
      refine inU (by rfl) ?_
      try simp only [Act.put, List.setIfInBounds_toArray, List.set_cons_zero, List.set_cons_succ]
      refine inU (by rfl) ?_
      try simp only [Act.put, List.setIfInBounds_toArray, List.set_cons_zero, List.set_cons_succ]
      refine inT (v := ?_) (by rfl) ?_ ?_
      case' refine_2 => (go_simp; try with_reducible rfl)
      try simp only [Act.put, List.setIfInBounds_toArray, List.set_cons_zero, List.set_cons_succ]
      refine inT (v := ?_) (by rfl) ?_ ?_
      case' refine_2 => (go_simp; try with_reducible rfl)
      try simp only [Act.put, List.setIfInBounds_toArray, List.set_cons_zero, List.set_cons_succ]
      refine inU (by rfl) ?_
      try simp only [Act.put, List.setIfInBounds_toArray, List.set_cons_zero, List.set_cons_succ]
      refine inU (by rfl) ?_
      try simp only [Act.put, List.setIfInBounds_toArray, List.set_cons_zero, List.set_cons_succ]
      refine inU (by rfl) ?_
      try simp only [Act.put, List.setIfInBounds_toArray, List.set_cons_zero, List.set_cons_succ]
      refine inU (by rfl) ?_
      try simp only [Act.put, List.setIfInBounds_toArray, List.set_cons_zero, List.set_cons_succ]
      refine inU (by rfl) ?_
      try simp only [Act.put, List.setIfInBounds_toArray, List.set_cons_zero, List.set_cons_succ]
      refine inT (v := ?_) (by rfl) ?_ ?_
      case' refine_2 => (go_simp; try with_reducible rfl)
      try simp only [Act.put, List.setIfInBounds_toArray, List.set_cons_zero, List.set_cons_succ]
      refine inT (v := ?_) (by rfl) ?_ ?_
      case' refine_2 => (go_simp; try with_reducible rfl)
      try simp only [Act.put, List.setIfInBounds_toArray, List.set_cons_zero, List.set_cons_succ]
      refine inU (by rfl) ?_
      try simp only [Act.put, List.setIfInBounds_toArray, List.set_cons_zero, List.set_cons_succ]
      refine inU (by rfl) ?_
      try simp only [Act.put, List.setIfInBounds_toArray, List.set_cons_zero, List.set_cons_succ]
      refine inU (by rfl) ?_
      try simp only [Act.put, List.setIfInBounds_toArray, List.set_cons_zero, List.set_cons_succ]
      refine inU (by rfl) ?_
      try simp only [Act.put, List.setIfInBounds_toArray, List.set_cons_zero, List.set_cons_succ]
      refine inU (by rfl) ?_
      try simp only [Act.put, List.setIfInBounds_toArray, List.set_cons_zero, List.set_cons_succ]
      refine inT (v := ?_) (by rfl) ?_ ?_
      case' refine_2 => (go_simp; try with_reducible rfl)
      try simp only [Act.put, List.setIfInBounds_toArray, List.set_cons_zero, List.set_cons_succ]
      refine inT (v := ?_) (by rfl) ?_ ?_
      case' refine_2 => (go_simp; try with_reducible rfl)
      try simp only [Act.put, List.setIfInBounds_toArray, List.set_cons_zero, List.set_cons_succ]
      refine inDone ?_
      go_wp2_with fail
      go_ret
      exact ⟨by rw [F.out]; rfl, HF.out⟩
    · have C1 := hid hc1
      clear hc1
      refine inT (v := ?_) (by rfl) ?_ ?_
      case' refine_2 => (go_simp; try with_reducible rfl)
      try simp only [Act.put, List.setIfInBounds_toArray, List.set_cons_zero, List.set_cons_succ]
      refine inT (v := ?_) (by rfl) ?_ ?_
      case' refine_2 => (go_simp; try with_reducible rfl)
      try simp only [Act.put, List.setIfInBounds_toArray, List.set_cons_zero, List.set_cons_succ]
      refine inT (v := ?_) (by rfl) ?_ ?_
      case' refine_2 => (have q := O4.out.cs; have y0 := q.c0; have y1 := q.c1; have y2 := q.c2; have y3 := q.c3; have y4 := q.c4; have y5 := q.c5; have y7 := q.c7; have y8 := q.c8; have y9 := q.c9; have y10 := q.c10; have y11 := q.c11; clear q; have q := P4.out.cs; have z0 := q.c0; have z1 := q.c1; have z2 := q.c2; have z3 := q.c3; have z4 := q.c4; have z5 := q.c5; have z7 := q.c7; have z8 := q.c8; have z9 := q.c9; have z10 := q.c10; have z11 := q.c11; clear q; go_simp; try with_reducible rfl)
      try simp only [Act.put, List.setIfInBounds_toArray, List.set_cons_zero, List.set_cons_succ]
      refine inT (v := ?_) (by rfl) ?_ ?_
      case' refine_2 => (go_simp; try with_reducible rfl)
      try simp only [Act.put, List.setIfInBounds_toArray, List.set_cons_zero, List.set_cons_succ]
      refine inT (v := ?_) (by rfl) ?_ ?_
      case' refine_2 => (have q := O4.out.cs; have y0 := q.c0; have y1 := q.c1; have y2 := q.c2; have y3 := q.c3; have y4 := q.c4; have y5 := q.c5; have y7 := q.c7; have y8 := q.c8; have y9 := q.c9; have y10 := q.c10; have y11 := q.c11; clear q; have q := P4.out.cs; have z0 := q.c0; have z1 := q.c1; have z2 := q.c2; have z3 := q.c3; have z4 := q.c4; have z5 := q.c5; have z7 := q.c7; have z8 := q.c8; have z9 := q.c9; have z10 := q.c10; have z11 := q.c11; clear q; go_simp; try with_reducible rfl)
      try simp only [Act.put, List.setIfInBounds_toArray, List.set_cons_zero, List.set_cons_succ]
      refine inT (v := .bool (n1 == m1 && n2 == m2)) (by rfl) ?_ ?_
      · go_simp
        by_cases qa : n1 = m1 <;> by_cases qb : n2 = m2 <;> simp [qa, qb]
      try simp only [Act.put, List.setIfInBounds_toArray, List.set_cons_zero, List.set_cons_succ]
      rcases hc2 : (n1 == m1 && n2 == m2) with _ | _
      · have F := hid (show osame d d' = false by rw [FO.out, C1.out, hc2]; simp)
        refine inT (v := ?_) (by rfl) ?_ ?_
        case' refine_2 => (go_simp; try with_reducible rfl)
        try simp only [Act.put, List.setIfInBounds_toArray, List.set_cons_zero, List.set_cons_succ]
        refine inT (v := ?_) (by rfl) ?_ ?_
        case' refine_2 => (go_simp; try with_reducible rfl)
        try simp only [Act.put, List.setIfInBounds_toArray, List.set_cons_zero, List.set_cons_succ]
        refine inU (by rfl) ?_
        try simp only [Act.put, List.setIfInBounds_toArray, List.set_cons_zero, List.set_cons_succ]
        refine inU (by rfl) ?_
        try simp only [Act.put, List.setIfInBounds_toArray, List.set_cons_zero, List.set_cons_succ]
        refine inU (by rfl) ?_
        try simp only [Act.put, List.setIfInBounds_toArray, List.set_cons_zero, List.set_cons_succ]
        refine inU (by rfl) ?_
        try simp only [Act.put, List.setIfInBounds_toArray, List.set_cons_zero, List.set_cons_succ]
        refine inU (by rfl) ?_
        try simp only [Act.put, List.setIfInBounds_toArray, List.set_cons_zero, List.set_cons_succ]
        refine inT (v := ?_) (by rfl) ?_ ?_
        case' refine_2 => (go_simp; try with_reducible rfl)
        try simp only [Act.put, List.setIfInBounds_toArray, List.set_cons_zero, List.set_cons_succ]
        refine inT (v := ?_) (by rfl) ?_ ?_
        case' refine_2 => (go_simp; try with_reducible rfl)
        try simp only [Act.put, List.setIfInBounds_toArray, List.set_cons_zero, List.set_cons_succ]
        refine inU (by rfl) ?_
        try simp only [Act.put, List.setIfInBounds_toArray, List.set_cons_zero, List.set_cons_succ]
        refine inU (by rfl) ?_
        try simp only [Act.put, List.setIfInBounds_toArray, List.set_cons_zero, List.set_cons_succ]
        refine inU (by rfl) ?_
        try simp only [Act.put, List.setIfInBounds_toArray, List.set_cons_zero, List.set_cons_succ]
        refine inU (by rfl) ?_
        try simp only [Act.put, List.setIfInBounds_toArray, List.set_cons_zero, List.set_cons_succ]
        refine inU (by rfl) ?_
        try simp only [Act.put, List.setIfInBounds_toArray, List.set_cons_zero, List.set_cons_succ]
        refine inT (v := ?_) (by rfl) ?_ ?_
        case' refine_2 => (go_simp; try with_reducible rfl)
        try simp only [Act.put, List.setIfInBounds_toArray, List.set_cons_zero, List.set_cons_succ]
        refine inT (v := ?_) (by rfl) ?_ ?_
        case' refine_2 => (go_simp; try with_reducible rfl)
        try simp only [Act.put, List.setIfInBounds_toArray, List.set_cons_zero, List.set_cons_succ]
        refine inU (by rfl) ?_
        try simp only [Act.put, List.setIfInBounds_toArray, List.set_cons_zero, List.set_cons_succ]
        refine inU (by rfl) ?_
        try simp only [Act.put, List.setIfInBounds_toArray, List.set_cons_zero, List.set_cons_succ]
        refine inU (by rfl) ?_
        try simp only [Act.put, List.setIfInBounds_toArray, List.set_cons_zero, List.set_cons_succ]
        refine inU (by rfl) ?_
        try simp only [Act.put, List.setIfInBounds_toArray, List.set_cons_zero, List.set_cons_succ]
        refine inU (by rfl) ?_
        try simp only [Act.put, List.setIfInBounds_toArray, List.set_cons_zero, List.set_cons_succ]
        refine inT (v := ?_) (by rfl) ?_ ?_
        case' refine_2 => (go_simp; try with_reducible rfl)
        try simp only [Act.put, List.setIfInBounds_toArray, List.set_cons_zero, List.set_cons_succ]
        refine inT (v := ?_) (by rfl) ?_ ?_
        case' refine_2 => (go_simp; try with_reducible rfl)
        try simp only [Act.put, List.setIfInBounds_toArray, List.set_cons_zero, List.set_cons_succ]
        refine inU (by rfl) ?_
        try simp only [Act.put, List.setIfInBounds_toArray, List.set_cons_zero, List.set_cons_succ]
        refine inU (by rfl) ?_
        try simp only [Act.put, List.setIfInBounds_toArray, List.set_cons_zero, List.set_cons_succ]
        refine inU (by rfl) ?_
        try simp only [Act.put, List.setIfInBounds_toArray, List.set_cons_zero, List.set_cons_succ]
        refine inU (by rfl) ?_
        try simp only [Act.put, List.setIfInBounds_toArray, List.set_cons_zero, List.set_cons_succ]
        refine inU (by rfl) ?_
        try simp only [Act.put, List.setIfInBounds_toArray, List.set_cons_zero, List.set_cons_succ]
        refine inT (v := ?_) (by rfl) ?_ ?_
        case' refine_2 => (go_simp; try with_reducible rfl)
        try simp only [Act.put, List.setIfInBounds_toArray, List.set_cons_zero, List.set_cons_succ]
        refine inT (v := ?_) (by rfl) ?_ ?_
        case' refine_2 => (go_simp; try with_reducible rfl)
        try simp only [Act.put, List.setIfInBounds_toArray, List.set_cons_zero, List.set_cons_succ]
        refine inU (by rfl) ?_
        try simp only [Act.put, List.setIfInBounds_toArray, List.set_cons_zero, List.set_cons_succ]
        refine inU (by rfl) ?_
        try simp only [Act.put, List.setIfInBounds_toArray, List.set_cons_zero, List.set_cons_succ]
        refine inU (by rfl) ?_
        try simp only [Act.put, List.setIfInBounds_toArray, List.set_cons_zero, List.set_cons_succ]
        refine inU (by rfl) ?_
        try simp only [Act.put, List.setIfInBounds_toArray, List.set_cons_zero, List.set_cons_succ]
        refine inU (by rfl) ?_
        try simp only [Act.put, List.setIfInBounds_toArray, List.set_cons_zero, List.set_cons_succ]
        refine inT (v := ?_) (by rfl) ?_ ?_
        case' refine_2 => (go_simp; try with_reducible rfl)
        try simp only [Act.put, List.setIfInBounds_toArray, List.set_cons_zero, List.set_cons_succ]
        refine inT (v := ?_) (by rfl) ?_ ?_
        case' refine_2 => (go_simp; try with_reducible rfl)
        try simp only [Act.put, List.setIfInBounds_toArray, List.set_cons_zero, List.set_cons_succ]
        refine inDone ?_
        go_wp2_with fail
        go_ret
        exact ⟨by rw [F.out]; rfl, HF.out⟩
      · have C2 := hid hc2
        clear hc2
        refine inT (v := ?_) (by rfl) ?_ ?_
        case' refine_2 => (go_simp; try with_reducible rfl)
        try simp only [Act.put, List.setIfInBounds_toArray, List.set_cons_zero, List.set_cons_succ]
        refine inT (v := ?_) (by rfl) ?_ ?_
        case' refine_2 => (go_simp; try with_reducible rfl)
        try simp only [Act.put, List.setIfInBounds_toArray, List.set_cons_zero, List.set_cons_succ]
        refine inT (v := ?_) (by rfl) ?_ ?_
        case' refine_2 => (go_simp; try with_reducible rfl)
        try simp only [Act.put, List.setIfInBounds_toArray, List.set_cons_zero, List.set_cons_succ]
        refine inT (v := ?_) (by rfl) ?_ ?_
        case' refine_2 => (have q := O4.out.cs; have y0 := q.c0; have y1 := q.c1; have y2 := q.c2; have y3 := q.c3; have y4 := q.c4; have y5 := q.c5; have y7 := q.c7; have y8 := q.c8; have y9 := q.c9; have y10 := q.c10; have y11 := q.c11; clear q; have q := P4.out.cs; have z0 := q.c0; have z1 := q.c1; have z2 := q.c2; have z3 := q.c3; have z4 := q.c4; have z5 := q.c5; have z7 := q.c7; have z8 := q.c8; have z9 := q.c9; have z10 := q.c10; have z11 := q.c11; clear q; go_simp; try with_reducible rfl)
        try simp only [Act.put, List.setIfInBounds_toArray, List.set_cons_zero, List.set_cons_succ]
        refine inT (v := ?_) (by rfl) ?_ ?_
        case' refine_2 => (go_simp; try with_reducible rfl)
        try simp only [Act.put, List.setIfInBounds_toArray, List.set_cons_zero, List.set_cons_succ]
        refine inT (v := ?_) (by rfl) ?_ ?_
        case' refine_2 => (have q := O4.out.cs; have y0 := q.c0; have y1 := q.c1; have y2 := q.c2; have y3 := q.c3; have y4 := q.c4; have y5 := q.c5; have y7 := q.c7; have y8 := q.c8; have y9 := q.c9; have y10 := q.c10; have y11 := q.c11; clear q; have q := P4.out.cs; have z0 := q.c0; have z1 := q.c1; have z2 := q.c2; have z3 := q.c3; have z4 := q.c4; have z5 := q.c5; have z7 := q.c7; have z8 := q.c8; have z9 := q.c9; have z10 := q.c10; have z11 := q.c11; clear q; go_simp; try with_reducible rfl)
        try simp only [Act.put, List.setIfInBounds_toArray, List.set_cons_zero, List.set_cons_succ]
        refine inT (v := .bool (r1 == s1 && r2 == s2)) (by rfl) ?_ ?_
        · go_simp
          by_cases qa : r1 = s1 <;> by_cases qb : r2 = s2 <;> simp [qa, qb]
        try simp only [Act.put, List.setIfInBounds_toArray, List.set_cons_zero, List.set_cons_succ]
        rcases hc3 : (r1 == s1 && r2 == s2) with _ | _
        · have F := hid (show osame d d' = false by rw [FO.out, C1.out, C2.out, hc3]; simp)
          refine inT (v := ?_) (by rfl) ?_ ?_
          case' refine_2 => (go_simp; try with_reducible rfl)
          try simp only [Act.put, List.setIfInBounds_toArray, List.set_cons_zero, List.set_cons_succ]
          refine inT (v := ?_) (by rfl) ?_ ?_
          case' refine_2 => (go_simp; try with_reducible rfl)
          try simp only [Act.put, List.setIfInBounds_toArray, List.set_cons_zero, List.set_cons_succ]
          refine inU (by rfl) ?_
          try simp only [Act.put, List.setIfInBounds_toArray, List.set_cons_zero, List.set_cons_succ]
          refine inU (by rfl) ?_
          try simp only [Act.put, List.setIfInBounds_toArray, List.set_cons_zero, List.set_cons_succ]
          refine inU (by rfl) ?_
          try simp only [Act.put, List.setIfInBounds_toArray, List.set_cons_zero, List.set_cons_succ]
          refine inU (by rfl) ?_
          try simp only [Act.put, List.setIfInBounds_toArray, List.set_cons_zero, List.set_cons_succ]
          refine inU (by rfl) ?_
          try simp only [Act.put, List.setIfInBounds_toArray, List.set_cons_zero, List.set_cons_succ]
          refine inT (v := ?_) (by rfl) ?_ ?_
          case' refine_2 => (go_simp; try with_reducible rfl)
          try simp only [Act.put, List.setIfInBounds_toArray, List.set_cons_zero, List.set_cons_succ]
          refine inT (v := ?_) (by rfl) ?_ ?_
          case' refine_2 => (go_simp; try with_reducible rfl)
          try simp only [Act.put, List.setIfInBounds_toArray, List.set_cons_zero, List.set_cons_succ]
          refine inU (by rfl) ?_
          try simp only [Act.put, List.setIfInBounds_toArray, List.set_cons_zero, List.set_cons_succ]
          refine inU (by rfl) ?_
          try simp only [Act.put, List.setIfInBounds_toArray, List.set_cons_zero, List.set_cons_succ]
          refine inU (by rfl) ?_
          try simp only [Act.put, List.setIfInBounds_toArray, List.set_cons_zero, List.set_cons_succ]
          refine inU (by rfl) ?_
          try simp only [Act.put, List.setIfInBounds_toArray, List.set_cons_zero, List.set_cons_succ]
          refine inU (by rfl) ?_
          try simp only [Act.put, List.setIfInBounds_toArray, List.set_cons_zero, List.set_cons_succ]
          refine inT (v := ?_) (by rfl) ?_ ?_
          case' refine_2 => (go_simp; try with_reducible rfl)
          try simp only [Act.put, List.setIfInBounds_toArray, List.set_cons_zero, List.set_cons_succ]
          refine inT (v := ?_) (by rfl) ?_ ?_
          case' refine_2 => (go_simp; try with_reducible rfl)
          try simp only [Act.put, List.setIfInBounds_toArray, List.set_cons_zero, List.set_cons_succ]
          refine inU (by rfl) ?_
          try simp only [Act.put, List.setIfInBounds_toArray, List.set_cons_zero, List.set_cons_succ]
          refine inU (by rfl) ?_
          try simp only [Act.put, List.setIfInBounds_toArray, List.set_cons_zero, List.set_cons_succ]
          refine inU (by rfl) ?_
          try simp only [Act.put, List.setIfInBounds_toArray, List.set_cons_zero, List.set_cons_succ]
          refine inU (by rfl) ?_
          try simp only [Act.put, List.setIfInBounds_toArray, List.set_cons_zero, List.set_cons_succ]
          refine inU (by rfl) ?_
          try simp only [Act.put, List.setIfInBounds_toArray, List.set_cons_zero, List.set_cons_succ]
          refine inT (v := ?_) (by rfl) ?_ ?_
          case' refine_2 => (go_simp; try with_reducible rfl)
          try simp only [Act.put, List.setIfInBounds_toArray, List.set_cons_zero, List.set_cons_succ]
          refine inT (v := ?_) (by rfl) ?_ ?_
          case' refine_2 => (go_simp; try with_reducible rfl)
          try simp only [Act.put, List.setIfInBounds_toArray, List.set_cons_zero, List.set_cons_succ]
          refine inU (by rfl) ?_
          try simp only [Act.put, List.setIfInBounds_toArray, List.set_cons_zero, List.set_cons_succ]
          refine inU (by rfl) ?_
          try simp only [Act.put, List.setIfInBounds_toArray, List.set_cons_zero, List.set_cons_succ]
          refine inU (by rfl) ?_
          try simp only [Act.put, List.setIfInBounds_toArray, List.set_cons_zero, List.set_cons_succ]
          refine inU (by rfl) ?_
          try simp only [Act.put, List.setIfInBounds_toArray, List.set_cons_zero, List.set_cons_succ]
          refine inU (by rfl) ?_
          try simp only [Act.put, List.setIfInBounds_toArray, List.set_cons_zero, List.set_cons_succ]
          refine inT (v := ?_) (by rfl) ?_ ?_
          case' refine_2 => (go_simp; try with_reducible rfl)
          try simp only [Act.put, List.setIfInBounds_toArray, List.set_cons_zero, List.set_cons_succ]
          refine inT (v := ?_) (by rfl) ?_ ?_
          case' refine_2 => (go_simp; try with_reducible rfl)
          try simp only [Act.put, List.setIfInBounds_toArray, List.set_cons_zero, List.set_cons_succ]
          refine inDone ?_
          go_wp2_with fail
          go_ret
          exact ⟨by rw [F.out]; rfl, HF.out⟩
        · have C3 := hid hc3
          clear hc3
          refine inT (v := ?_) (by rfl) ?_ ?_
          case' refine_2 => (go_simp; try with_reducible rfl)
          try simp only [Act.put, List.setIfInBounds_toArray, List.set_cons_zero, List.set_cons_succ]
          refine inT (v := ?_) (by rfl) ?_ ?_
          case' refine_2 => (go_simp; try with_reducible rfl)
          try simp only [Act.put, List.setIfInBounds_toArray, List.set_cons_zero, List.set_cons_succ]
          refine inT (v := ?_) (by rfl) ?_ ?_
          case' refine_2 => (go_simp; try with_reducible rfl)
          try simp only [Act.put, List.setIfInBounds_toArray, List.set_cons_zero, List.set_cons_succ]
          refine inT (v := ?_) (by rfl) ?_ ?_
          case' refine_2 => (have q := O4.out.cs; have y0 := q.c0; have y1 := q.c1; have y2 := q.c2; have y3 := q.c3; have y4 := q.c4; have y5 := q.c5; have y7 := q.c7; have y8 := q.c8; have y9 := q.c9; have y10 := q.c10; have y11 := q.c11; clear q; have q := P4.out.cs; have z0 := q.c0; have z1 := q.c1; have z2 := q.c2; have z3 := q.c3; have z4 := q.c4; have z5 := q.c5; have z7 := q.c7; have z8 := q.c8; have z9 := q.c9; have z10 := q.c10; have z11 := q.c11; clear q; go_simp; try with_reducible rfl)
          try simp only [Act.put, List.setIfInBounds_toArray, List.set_cons_zero, List.set_cons_succ]
          refine inT (v := ?_) (by rfl) ?_ ?_
          case' refine_2 => (go_simp; try with_reducible rfl)
          try simp only [Act.put, List.setIfInBounds_toArray, List.set_cons_zero, List.set_cons_succ]
          refine inT (v := ?_) (by rfl) ?_ ?_
          case' refine_2 => (have q := O4.out.cs; have y0 := q.c0; have y1 := q.c1; have y2 := q.c2; have y3 := q.c3; have y4 := q.c4; have y5 := q.c5; have y7 := q.c7; have y8 := q.c8; have y9 := q.c9; have y10 := q.c10; have y11 := q.c11; clear q; have q := P4.out.cs; have z0 := q.c0; have z1 := q.c1; have z2 := q.c2; have z3 := q.c3; have z4 := q.c4; have z5 := q.c5; have z7 := q.c7; have z8 := q.c8; have z9 := q.c9; have z10 := q.c10; have z11 := q.c11; clear q; go_simp; try with_reducible rfl)
          try simp only [Act.put, List.setIfInBounds_toArray, List.set_cons_zero, List.set_cons_succ]
          refine inT (v := ?_) (by rfl) ?_ ?_
          case' refine_2 => (go_simp; try with_reducible rfl)
          try simp only [Act.put, List.setIfInBounds_toArray, List.set_cons_zero, List.set_cons_succ]
          rcases hc4 : (key.toList == key'.toList) with _ | _
          · have F := hid (show osame d d' = false by rw [FO.out, C1.out, C2.out, C3.out, hc4]; simp)
            refine inT (v := ?_) (by rfl) ?_ ?_
            case' refine_2 => (go_simp; try with_reducible rfl)
            try simp only [Act.put, List.setIfInBounds_toArray, List.set_cons_zero, List.set_cons_succ]
            refine inT (v := ?_) (by rfl) ?_ ?_
            case' refine_2 => (go_simp; try with_reducible rfl)
            try simp only [Act.put, List.setIfInBounds_toArray, List.set_cons_zero, List.set_cons_succ]
            refine inU (by rfl) ?_
            try simp only [Act.put, List.setIfInBounds_toArray, List.set_cons_zero, List.set_cons_succ]
            refine inU (by rfl) ?_
            try simp only [Act.put, List.setIfInBounds_toArray, List.set_cons_zero, List.set_cons_succ]
            refine inU (by rfl) ?_
            try simp only [Act.put, List.setIfInBounds_toArray, List.set_cons_zero, List.set_cons_succ]
            refine inU (by rfl) ?_
            try simp only [Act.put, List.setIfInBounds_toArray, List.set_cons_zero, List.set_cons_succ]
            refine inU (by rfl) ?_
            try simp only [Act.put, List.setIfInBounds_toArray, List.set_cons_zero, List.set_cons_succ]
            refine inT (v := ?_) (by rfl) ?_ ?_
            case' refine_2 => (go_simp; try with_reducible rfl)
            try simp only [Act.put, List.setIfInBounds_toArray, List.set_cons_zero, List.set_cons_succ]
            refine inT (v := ?_) (by rfl) ?_ ?_
            case' refine_2 => (go_simp; try with_reducible rfl)
            try simp only [Act.put, List.setIfInBounds_toArray, List.set_cons_zero, List.set_cons_succ]
            refine inU (by rfl) ?_
            try simp only [Act.put, List.setIfInBounds_toArray, List.set_cons_zero, List.set_cons_succ]
            refine inU (by rfl) ?_
            try simp only [Act.put, List.setIfInBounds_toArray, List.set_cons_zero, List.set_cons_succ]
            refine inU (by rfl) ?_
            try simp only [Act.put, List.setIfInBounds_toArray, List.set_cons_zero, List.set_cons_succ]
            refine inU (by rfl) ?_
            try simp only [Act.put, List.setIfInBounds_toArray, List.set_cons_zero, List.set_cons_succ]
            refine inU (by rfl) ?_
            try simp only [Act.put, List.setIfInBounds_toArray, List.set_cons_zero, List.set_cons_succ]
            refine inT (v := ?_) (by rfl) ?_ ?_
            case' refine_2 => (go_simp; try with_reducible rfl)
            try simp only [Act.put, List.setIfInBounds_toArray, List.set_cons_zero, List.set_cons_succ]
            refine inT (v := ?_) (by rfl) ?_ ?_
            case' refine_2 => (go_simp; try with_reducible rfl)
            try simp only [Act.put, List.setIfInBounds_toArray, List.set_cons_zero, List.set_cons_succ]
            refine inU (by rfl) ?_
            try simp only [Act.put, List.setIfInBounds_toArray, List.set_cons_zero, List.set_cons_succ]
            refine inU (by rfl) ?_
            try simp only [Act.put, List.setIfInBounds_toArray, List.set_cons_zero, List.set_cons_succ]
            refine inU (by rfl) ?_
            try simp only [Act.put, List.setIfInBounds_toArray, List.set_cons_zero, List.set_cons_succ]
            refine inU (by rfl) ?_
            try simp only [Act.put, List.setIfInBounds_toArray, List.set_cons_zero, List.set_cons_succ]
            refine inU (by rfl) ?_
            try simp only [Act.put, List.setIfInBounds_toArray, List.set_cons_zero, List.set_cons_succ]
            refine inT (v := ?_) (by rfl) ?_ ?_
            case' refine_2 => (go_simp; try with_reducible rfl)
            try simp only [Act.put, List.setIfInBounds_toArray, List.set_cons_zero, List.set_cons_succ]
            refine inT (v := ?_) (by rfl) ?_ ?_
            case' refine_2 => (go_simp; try with_reducible rfl)
            try simp only [Act.put, List.setIfInBounds_toArray, List.set_cons_zero, List.set_cons_succ]
            refine inDone ?_
            go_wp2_with fail
            go_ret
            exact ⟨by rw [F.out]; rfl, HF.out⟩
          · have C4 := hid hc4
            clear hc4
            refine inT (v := ?_) (by rfl) ?_ ?_
            case' refine_2 => (go_simp; try with_reducible rfl)
            try simp only [Act.put, List.setIfInBounds_toArray, List.set_cons_zero, List.set_cons_succ]
            refine inT (v := ?_) (by rfl) ?_ ?_
            case' refine_2 => (go_simp; try with_reducible rfl)
            try simp only [Act.put, List.setIfInBounds_toArray, List.set_cons_zero, List.set_cons_succ]
            refine inT (v := ?_) (by rfl) ?_ ?_
            case' refine_2 => (go_simp; try with_reducible rfl)
            try simp only [Act.put, List.setIfInBounds_toArray, List.set_cons_zero, List.set_cons_succ]
            refine inT (v := ?_) (by rfl) ?_ ?_
            case' refine_2 => (have q := O4.out.cs; have y0 := q.c0; have y1 := q.c1; have y2 := q.c2; have y3 := q.c3; have y4 := q.c4; have y5 := q.c5; have y7 := q.c7; have y8 := q.c8; have y9 := q.c9; have y10 := q.c10; have y11 := q.c11; clear q; have q := P4.out.cs; have z0 := q.c0; have z1 := q.c1; have z2 := q.c2; have z3 := q.c3; have z4 := q.c4; have z5 := q.c5; have z7 := q.c7; have z8 := q.c8; have z9 := q.c9; have z10 := q.c10; have z11 := q.c11; clear q; go_simp; try with_reducible rfl)
            try simp only [Act.put, List.setIfInBounds_toArray, List.set_cons_zero, List.set_cons_succ]
            refine inT (v := ?_) (by rfl) ?_ ?_
            case' refine_2 => (go_simp; try with_reducible rfl)
            try simp only [Act.put, List.setIfInBounds_toArray, List.set_cons_zero, List.set_cons_succ]
            refine inT (v := ?_) (by rfl) ?_ ?_
            case' refine_2 => (have q := O4.out.cs; have y0 := q.c0; have y1 := q.c1; have y2 := q.c2; have y3 := q.c3; have y4 := q.c4; have y5 := q.c5; have y7 := q.c7; have y8 := q.c8; have y9 := q.c9; have y10 := q.c10; have y11 := q.c11; clear q; have q := P4.out.cs; have z0 := q.c0; have z1 := q.c1; have z2 := q.c2; have z3 := q.c3; have z4 := q.c4; have z5 := q.c5; have z7 := q.c7; have z8 := q.c8; have z9 := q.c9; have z10 := q.c10; have z11 := q.c11; clear q; go_simp; try with_reducible rfl)
            try simp only [Act.put, List.setIfInBounds_toArray, List.set_cons_zero, List.set_cons_succ]
            refine inT (v := ?_) (by rfl) ?_ ?_
            case' refine_2 => (go_simp; try with_reducible rfl)
            try simp only [Act.put, List.setIfInBounds_toArray, List.set_cons_zero, List.set_cons_succ]
            rcases hc5 : (prop == prop') with _ | _
            · have F := hid (show osame d d' = false by rw [FO.out, C1.out, C2.out, C3.out, C4.out, hc5]; simp)
              refine inT (v := ?_) (by rfl) ?_ ?_
              case' refine_2 => (go_simp; try with_reducible rfl)
              try simp only [Act.put, List.setIfInBounds_toArray, List.set_cons_zero, List.set_cons_succ]
              refine inT (v := ?_) (by rfl) ?_ ?_
              case' refine_2 => (go_simp; try with_reducible rfl)
              try simp only [Act.put, List.setIfInBounds_toArray, List.set_cons_zero, List.set_cons_succ]
              refine inU (by rfl) ?_
              try simp only [Act.put, List.setIfInBounds_toArray, List.set_cons_zero, List.set_cons_succ]
              refine inU (by rfl) ?_
              try simp only [Act.put, List.setIfInBounds_toArray, List.set_cons_zero, List.set_cons_succ]
              refine inU (by rfl) ?_
              try simp only [Act.put, List.setIfInBounds_toArray, List.set_cons_zero, List.set_cons_succ]
              refine inU (by rfl) ?_
              try simp only [Act.put, List.setIfInBounds_toArray, List.set_cons_zero, List.set_cons_succ]
              refine inU (by rfl) ?_
              try simp only [Act.put, List.setIfInBounds_toArray, List.set_cons_zero, List.set_cons_succ]
              refine inT (v := ?_) (by rfl) ?_ ?_
              case' refine_2 => (go_simp; try with_reducible rfl)
              try simp only [Act.put, List.setIfInBounds_toArray, List.set_cons_zero, List.set_cons_succ]
              refine inT (v := ?_) (by rfl) ?_ ?_
              case' refine_2 => (go_simp; try with_reducible rfl)
              try simp only [Act.put, List.setIfInBounds_toArray, List.set_cons_zero, List.set_cons_succ]
              refine inU (by rfl) ?_
              try simp only [Act.put, List.setIfInBounds_toArray, List.set_cons_zero, List.set_cons_succ]
              refine inU (by rfl) ?_
              try simp only [Act.put, List.setIfInBounds_toArray, List.set_cons_zero, List.set_cons_succ]
              refine inU (by rfl) ?_
              try simp only [Act.put, List.setIfInBounds_toArray, List.set_cons_zero, List.set_cons_succ]
              refine inU (by rfl) ?_
              try simp only [Act.put, List.setIfInBounds_toArray, List.set_cons_zero, List.set_cons_succ]
              refine inU (by rfl) ?_
              try simp only [Act.put, List.setIfInBounds_toArray, List.set_cons_zero, List.set_cons_succ]
              refine inT (v := ?_) (by rfl) ?_ ?_
              case' refine_2 => (go_simp; try with_reducible rfl)
              try simp only [Act.put, List.setIfInBounds_toArray, List.set_cons_zero, List.set_cons_succ]
              refine inT (v := ?_) (by rfl) ?_ ?_
              case' refine_2 => (go_simp; try with_reducible rfl)
              try simp only [Act.put, List.setIfInBounds_toArray, List.set_cons_zero, List.set_cons_succ]
              refine inDone ?_
              go_wp2_with fail
              go_ret
              exact ⟨by rw [F.out]; rfl, HF.out⟩
            · have C5 := hid hc5
              clear hc5
              refine inT (v := ?_) (by rfl) ?_ ?_
              case' refine_2 => (go_simp; try with_reducible rfl)
              try simp only [Act.put, List.setIfInBounds_toArray, List.set_cons_zero, List.set_cons_succ]
              refine inT (v := ?_) (by rfl) ?_ ?_
              case' refine_2 => (go_simp; try with_reducible rfl)
              try simp only [Act.put, List.setIfInBounds_toArray, List.set_cons_zero, List.set_cons_succ]
              refine inT (v := ?_) (by rfl) ?_ ?_
              case' refine_2 => (go_simp; try with_reducible rfl)
              try simp only [Act.put, List.setIfInBounds_toArray, List.set_cons_zero, List.set_cons_succ]
              refine inT (v := ?_) (by rfl) ?_ ?_
              case' refine_2 => (have q := O4.out.cs; have y0 := q.c0; have y1 := q.c1; have y2 := q.c2; have y3 := q.c3; have y4 := q.c4; have y5 := q.c5; have y7 := q.c7; have y8 := q.c8; have y9 := q.c9; have y10 := q.c10; have y11 := q.c11; clear q; have q := P4.out.cs; have z0 := q.c0; have z1 := q.c1; have z2 := q.c2; have z3 := q.c3; have z4 := q.c4; have z5 := q.c5; have z7 := q.c7; have z8 := q.c8; have z9 := q.c9; have z10 := q.c10; have z11 := q.c11; clear q; go_simp; try with_reducible rfl)
              try simp only [Act.put, List.setIfInBounds_toArray, List.set_cons_zero, List.set_cons_succ]
              refine inT (v := ?_) (by rfl) ?_ ?_
              case' refine_2 => (go_simp; try with_reducible rfl)
              try simp only [Act.put, List.setIfInBounds_toArray, List.set_cons_zero, List.set_cons_succ]
              refine inT (v := ?_) (by rfl) ?_ ?_
              case' refine_2 => (have q := O4.out.cs; have y0 := q.c0; have y1 := q.c1; have y2 := q.c2; have y3 := q.c3; have y4 := q.c4; have y5 := q.c5; have y7 := q.c7; have y8 := q.c8; have y9 := q.c9; have y10 := q.c10; have y11 := q.c11; clear q; have q := P4.out.cs; have z0 := q.c0; have z1 := q.c1; have z2 := q.c2; have z3 := q.c3; have z4 := q.c4; have z5 := q.c5; have z7 := q.c7; have z8 := q.c8; have z9 := q.c9; have z10 := q.c10; have z11 := q.c11; clear q; go_simp; try with_reducible rfl)
              try simp only [Act.put, List.setIfInBounds_toArray, List.set_cons_zero, List.set_cons_succ]
              refine inT (v := .bool (vk == uk && (vn == un && vt.toList == ut.toList))) (by rfl) ?_ ?_
              · go_simp
                by_cases qa : vk = uk <;> by_cases qb : vn = un <;> by_cases qc : vt.toList = ut.toList <;> simp [qa, qb, qc]
              try simp only [Act.put, List.setIfInBounds_toArray, List.set_cons_zero, List.set_cons_succ]
              rcases hc6 : (vk == uk && (vn == un && vt.toList == ut.toList)) with _ | _
              · have F := hid (show osame d d' = false by rw [FO.out, C1.out, C2.out, C3.out, C4.out, C5.out, hc6]; simp)
                refine inT (v := ?_) (by rfl) ?_ ?_
                case' refine_2 => (go_simp; try with_reducible rfl)
                try simp only [Act.put, List.setIfInBounds_toArray, List.set_cons_zero, List.set_cons_succ]
                refine inT (v := ?_) (by rfl) ?_ ?_
                case' refine_2 => (go_simp; try with_reducible rfl)
                try simp only [Act.put, List.setIfInBounds_toArray, List.set_cons_zero, List.set_cons_succ]
                refine inU (by rfl) ?_
                try simp only [Act.put, List.setIfInBounds_toArray, List.set_cons_zero, List.set_cons_succ]
                refine inU (by rfl) ?_
                try simp only [Act.put, List.setIfInBounds_toArray, List.set_cons_zero, List.set_cons_succ]
                refine inU (by rfl) ?_
                try simp only [Act.put, List.setIfInBounds_toArray, List.set_cons_zero, List.set_cons_succ]
                refine inU (by rfl) ?_
                try simp only [Act.put, List.setIfInBounds_toArray, List.set_cons_zero, List.set_cons_succ]
                refine inU (by rfl) ?_
                try simp only [Act.put, List.setIfInBounds_toArray, List.set_cons_zero, List.set_cons_succ]
                refine inT (v := ?_) (by rfl) ?_ ?_
                case' refine_2 => (go_simp; try with_reducible rfl)
                try simp only [Act.put, List.setIfInBounds_toArray, List.set_cons_zero, List.set_cons_succ]
                refine inT (v := ?_) (by rfl) ?_ ?_
                case' refine_2 => (go_simp; try with_reducible rfl)
                try simp only [Act.put, List.setIfInBounds_toArray, List.set_cons_zero, List.set_cons_succ]
                refine inDone ?_
                go_wp2_with fail
                go_ret
                exact ⟨by rw [F.out]; rfl, HF.out⟩
              · have C6 := hid hc6
                clear hc6
                refine inT (v := ?_) (by rfl) ?_ ?_
                case' refine_2 => (go_simp; try with_reducible rfl)
                try simp only [Act.put, List.setIfInBounds_toArray, List.set_cons_zero, List.set_cons_succ]
                refine inT (v := ?_) (by rfl) ?_ ?_
                case' refine_2 => (go_simp; try with_reducible rfl)
                try simp only [Act.put, List.setIfInBounds_toArray, List.set_cons_zero, List.set_cons_succ]
                refine inT (v := ?_) (by rfl) ?_ ?_
                case' refine_2 => (go_simp; try with_reducible rfl)
                try simp only [Act.put, List.setIfInBounds_toArray, List.set_cons_zero, List.set_cons_succ]
                refine inT (v := ?_) (by rfl) ?_ ?_
                case' refine_2 => (have q := O4.out.cs; have y0 := q.c0; have y1 := q.c1; have y2 := q.c2; have y3 := q.c3; have y4 := q.c4; have y5 := q.c5; have y7 := q.c7; have y8 := q.c8; have y9 := q.c9; have y10 := q.c10; have y11 := q.c11; clear q; have q := P4.out.cs; have z0 := q.c0; have z1 := q.c1; have z2 := q.c2; have z3 := q.c3; have z4 := q.c4; have z5 := q.c5; have z7 := q.c7; have z8 := q.c8; have z9 := q.c9; have z10 := q.c10; have z11 := q.c11; clear q; go_simp; try with_reducible rfl)
                try simp only [Act.put, List.setIfInBounds_toArray, List.set_cons_zero, List.set_cons_succ]
                refine inT (v := ?_) (by rfl) ?_ ?_
                case' refine_2 => (go_simp; try with_reducible rfl)
                try simp only [Act.put, List.setIfInBounds_toArray, List.set_cons_zero, List.set_cons_succ]
                refine inT (v := ?_) (by rfl) ?_ ?_
                case' refine_2 => (have q := O4.out.cs; have y0 := q.c0; have y1 := q.c1; have y2 := q.c2; have y3 := q.c3; have y4 := q.c4; have y5 := q.c5; have y7 := q.c7; have y8 := q.c8; have y9 := q.c9; have y10 := q.c10; have y11 := q.c11; clear q; have q := P4.out.cs; have z0 := q.c0; have z1 := q.c1; have z2 := q.c2; have z3 := q.c3; have z4 := q.c4; have z5 := q.c5; have z7 := q.c7; have z8 := q.c8; have z9 := q.c9; have z10 := q.c10; have z11 := q.c11; clear q; go_simp; try with_reducible rfl)
                try simp only [Act.put, List.setIfInBounds_toArray, List.set_cons_zero, List.set_cons_succ]
                refine inT (v := ?_) (by rfl) ?_ ?_
                case' refine_2 => (go_simp; try with_reducible rfl)
                try simp only [Act.put, List.setIfInBounds_toArray, List.set_cons_zero, List.set_cons_succ]
                have F := hid (show osame d d' = (on == on') by rw [FO.out, C1.out, C2.out, C3.out, C4.out, C5.out, C6.out]; simp)
                refine inT (v := ?_) (by rfl) ?_ ?_
                case' refine_2 => (go_simp; try with_reducible rfl)
                try simp only [Act.put, List.setIfInBounds_toArray, List.set_cons_zero, List.set_cons_succ]
                refine inT (v := ?_) (by rfl) ?_ ?_
                case' refine_2 => (go_simp; try with_reducible rfl)
                try simp only [Act.put, List.setIfInBounds_toArray, List.set_cons_zero, List.set_cons_succ]
                refine inDone ?_
                go_wp2_with fail
                go_ret
                exact ⟨by rw [F.out]; rfl, HF.out⟩
end Go.Proofs.YtnakanophilfhaaDoor
