/- Frames known by what stands in some of their slots, and regions walked over such frames. -/
import Derived.Test.YtnakanophilfhaaDoorHeld
import Derived.Test.YtnakanophilfhaaDoorInR
import Derived.Test.YtnakanophilfhaaDoorAp
import Derived.Test.YtnakanophilfhaaDoorApP
set_option linter.unusedVariables false
set_option linter.unusedSimpArgs false
namespace Go.Proofs.YtnakanophilfhaaDoor
open Go.RowKit Go.Dio

theorem beq_no {i d : Nat} (c : ¬ i = d) : Nat.beq i d = false := by
  cases h : Nat.beq i d
  · rfl
  · exact absurd (Nat.eq_of_beq_eq_true h) c
/-- What a slot holds, out of a row of facts: the first one counts. -/
def look : List (Nat × Value) → Nat → Option Value
  | [], _ => none
  | (i, v) :: l, d => match Nat.beq i d with
    | true => some v
    | false => look l d
structure Fr (a : Act) (N : Nat) (l : List (Nat × Value)) : Prop where
  size : a.tmps.size = N
  nod : a.defers = []
  get : ∀ d v, look l d = some v → a.tmps[d]? = some v
def okD (N : Nat) : Option Nat → Bool
  | none => true
  | some d => Nat.blt d N
def dstF (o : Option Nat) (v : Value) (l : List (Nat × Value)) : List (Nat × Value) :=
  match o with
  | none => l
  | some d => (d, v) :: l
theorem Fr.ev {a : Act} {N : Nat} {l : List (Nat × Value)} (h : Fr a N l) (d : Nat) {v : Value} (e : look l d = some v) : a.tmps.getD d undef = v := by
  rw [Array.getD_eq_getD_getElem?, h.get d v e, Option.getD_some]
theorem Fr.put {a : Act} {N : Nat} {l : List (Nat × Value)} (h : Fr a N l) {o : Option Nat} {v : Value} (hd : okD N o = true) : Fr (a.put o v) N (dstF o v l) := by
  rcases o with _ | d
  · exact h
  · have hlt : d < N := by simpa [okD, Nat.blt_eq] using hd
    refine ⟨by simp [Act.put, h.size], by simp [Act.put, h.nod], fun i u e => ?_⟩
    simp only [dstF, look] at e
    simp only [Act.put]
    rw [Array.getElem?_setIfInBounds]
    by_cases c : d = i
    · subst c
      rw [show Nat.beq d d = true by simp] at e
      rw [if_pos rfl, if_pos (by rw [h.size]; exact hlt)]
      exact e
    · rw [beq_no c] at e
      rw [if_neg c]
      exact h.get i u e
def FrL (a : Act) : List (Nat × Value) → Prop
  | [] => True
  | (i, v) :: l => a.tmps[i]? = some v ∧ FrL a l
theorem Fr.of {a : Act} {N : Nat} : ∀ {l : List (Nat × Value)}, a.tmps.size = N → a.defers = [] → FrL a l → Fr a N l
  | [], hs, hn, _ => ⟨hs, hn, fun d v e => by cases e⟩
  | (i, u) :: l, hs, hn, h => by
    have r := Fr.of (l := l) hs hn h.2
    refine ⟨hs, hn, fun d v e => ?_⟩
    simp only [look] at e
    by_cases c : i = d
    · subst c
      rw [show Nat.beq i i = true by simp] at e
      rw [← Option.some.inj e]
      exact h.1
    · rw [beq_no c] at e
      exact r.get d v e
/-- All facts of l' stand in l. -/
def FrS (l : List (Nat × Value)) : List (Nat × Value) → Prop
  | [] => True
  | (i, v) :: l' => look l i = some v ∧ FrS l l'
theorem Fr.sub {a : Act} {N : Nat} {l : List (Nat × Value)} (h : Fr a N l) : ∀ {l' : List (Nat × Value)}, FrS l l' → Fr a N l' := by
  intro l' hs
  refine Fr.of h.size h.nod ?_
  induction l' with
  | nil => trivial
  | cons p l' ih =>
    obtain ⟨i, v⟩ := p
    exact ⟨h.get i v hs.1, ih hs.2⟩
/-- Is an operation wanted? -/
def wantF (L : List Oper) (l : List (Nat × Value)) (o : Oper) : Option Bool :=
  match o.guard with
  | none => some true
  | some (j, want) =>
    match L[j]? with
    | none => none
    | some oj =>
      match oj.dst with
      | none => none
      | some d =>
        match look l d with
        | some (.bool b) => some (b == want)
        | some (.tuple _) => some false
        | _ => none
theorem wantF_ok {a : Act} {N : Nat} {l : List (Nat × Value)} {L : List Oper} {o : Oper} {b : Bool} (h : Fr a N l) (e : wantF L l o = some b) : Region.wanted o (yielded L.toArray a.tmps) = b := by
  unfold wantF at e
  unfold Region.wanted
  split at e
  · rename_i hg
    rw [hg]
    exact Option.some.inj e
  · rename_i j want hg
    rw [hg]
    simp only [yielded, List.getElem?_toArray]
    split at e
    · cases e
    · rename_i oj hj
      rw [hj]
      split at e
      · cases e
      · rename_i d hd
        simp only [Option.bind_some, hd]
        split at e
        · rename_i x hx
          rw [h.get d _ hx, ← Option.some.inj e]
          cases x <;> cases want <;> rfl
        · rename_i x hx
          rw [h.get d _ hx, ← Option.some.inj e]
          rfl
        · cases e
/-- What moves, opens a tuple, turns a flag round. -/
def evF (l : List (Nat × Value)) : Operand → Option Value
  | .tmp t => look l t
  | .const v => some v
  | .global g => some (.pointer (some ⟨g, 0, none⟩))
  | .func f => some (.func (.func f) #[] #[])
theorem evF_ok {a : Act} {N : Nat} {l : List (Nat × Value)} {x : Operand} {v : Value} (h : Fr a N l) (e : evF l x = some v) : a.eval x = v := by
  cases x with
  | tmp t => exact h.ev t e
  | const u => exact Option.some.inj e
  | global g => exact Option.some.inj e
  | func f => exact Option.some.inj e
def pureF (l : List (Nat × Value)) : Op → Option Value
  | .move x | .assign x => evF l x
  | .extract x i =>
    match evF l x with
    | some (.tuple vs) => vs[i]?
    | _ => none
  | .pick c x y =>
    match evF l c with
    | some (.bool true) => evF l x
    | some (.bool false) => evF l y
    | _ => none
  | .unOp .not _ x =>
    match evF l x with
    | some (.bool b) => some (.bool (!b))
    | _ => none
  | _ => none
theorem pureF_ok {P : Program} {a : Act} {N : Nat} {l : List (Nat × Value)} {o : Oper} {v : Value} {w : World} (h : Fr a N l) (e : pureF l o.op = some v) : (execOp a.eval o).run P w = .ok (.value v) w := by
  unfold pureF at e
  split at e
  · rename_i x hx
    have := evF_ok h e
    simp only [execOp, hx, this]
    rfl
  · rename_i x hx
    have := evF_ok h e
    simp only [execOp, hx, this]
    rfl
  · rename_i x i hx
    split at e
    · rename_i vs hv
      have := evF_ok h hv
      simp [execOp, hx, this, Instr.extract, e]
    · cases e
  · rename_i c x y hx
    split at e
    · rename_i hc
      have h1 := evF_ok h hc
      have h2 := evF_ok h e
      simp [execOp, hx, h1, h2, asBool]
    · rename_i hc
      have h1 := evF_ok h hc
      have h2 := evF_ok h e
      simp [execOp, hx, h1, h2, asBool]
    · cases e
  · rename_i t x hx
    split at e
    · rename_i b hv
      have h1 := evF_ok h hv
      rw [← Option.some.inj e]
      simp [execOp, hx, h1, Op.unary]
    · cases e
  · cases e
def runF (L : List Oper) (calls : List Nat) (N : Nat) : Nat → Nat → List (Nat × Value) → Nat × List (Nat × Value)
  | 0, k, l => (k, l)
  | n + 1, k, l =>
    match L[k]? with
    | none => (k, l)
    | some o =>
      match okD N o.dst with
      | false => (k, l)
      | true =>
        match wantF L l o with
        | none => (k, l)
        | some false => runF L calls N n (k + 1) (dstF o.dst undef l)
        | some true =>
          match calls.contains k with
          | true => (k, l)
          | false =>
            match pureF l o.op with
            | none => (k, l)
            | some v => runF L calls N n (k + 1) (dstF o.dst v l)

theorem drop_cons {α : Type} {L : List α} {k : Nat} {o : α} (h : L[k]? = some o) : L.drop k = o :: L.drop (k + 1) := by
  obtain ⟨hk, rfl⟩ := List.getElem?_eq_some_iff.1 h
  exact List.drop_eq_getElem_cons hk

/-- Entering and leaving a function. -/
def argsF : Nat → List Value → List (Nat × Value)
  | _, [] => []
  | i, v :: vs => (i, v) :: argsF (i + 1) vs
theorem look_args : ∀ (vs : List Value) (i d : Nat) (v : Value), look (argsF i vs) d = some v → i ≤ d ∧ vs[d - i]? = some v
  | [], i, d, v, e => by cases e
  | u :: vs, i, d, v, e => by
    simp only [argsF, look] at e
    by_cases c : i = d
    · subst c
      rw [show Nat.beq i i = true by simp] at e
      simpa using e
    · rw [beq_no c] at e
      have := look_args vs (i + 1) d v e
      refine ⟨by omega, ?_⟩
      rw [show d - i = (d - (i + 1)) + 1 by omega, List.getElem?_cons_succ]
      exact this.2
theorem frCall {P : Program} {f : FuncId} {fn : Func} {c : Code} {args : List Value} {w : World} {R : Ending → World → Prop} {N : Nat} (hf : P.funcs[f]? = some fn) (hb : fn.body = some c) (hN : fn.ntmps = N)
    (hl : Nat.ble args.length N = true) (h : ∀ a, Fr a N (argsF 0 args) → c.wp P (bodyPost P fn R) a w) : Calls P f args.toArray w R := by
  refine calls_of_wp hf hb (h _ ⟨?_, rfl, fun d v e => ?_⟩)
  · have := Nat.le_of_ble_eq_true hl
    simp [hN]
    omega
  · have h1 := (look_args args 0 d v e).2
    simp only [Nat.sub_zero] at h1
    have hlt := (List.getElem?_eq_some_iff.1 h1).1
    simp only
    rw [Array.getElem?_append_left (by simpa using hlt)]
    simpa using h1
theorem frRet1 {P : Program} {fn : Func} {R : Ending → World → Prop} {a : Act} {w : World} {N t : Nat} {l : List (Nat × Value)} {v : Value} (hr : fn.results = #[.tmp t]) (F : Fr a N l) (hv : look l t = some v) (h : R (.returned v) w) : bodyPost P fn R .ret a w :=
  ⟨F.nod, v, by rw [results_tmp hr, F.ev t hv], h⟩
theorem frRet2 {P : Program} {fn : Func} {R : Ending → World → Prop} {a : Act} {w : World} {N t u : Nat} {l : List (Nat × Value)} {v v' : Value} (hr : fn.results = #[.tmp t, .tmp u]) (F : Fr a N l) (hv : look l t = some v) (hv' : look l u = some v')
    (h : R (.returned (.tuple #[v, v'])) w) : bodyPost P fn R .ret a w :=
  ⟨F.nod, _, by rw [results_tmp2 hr, F.ev t hv, F.ev u hv'], h⟩
theorem frRetC {P : Program} {fn : Func} {R : Ending → World → Prop} {a : Act} {w : World} {N t : Nat} {T : TypeId} {l : List (Nat × Value)} {ad : Addr} {v : Value} (hr : fn.results = #[.cell t T]) (F : Fr a N l) (hv : look l t = some (.pointer (some ad)))
    (hl : (loadVar T ad).run P w = .ok v w) (h : R (.returned v) w) : bodyPost P fn R .ret a w :=
  ⟨F.nod, v, by simp [results, hr, F.get t _ hv, asAddr, hl], h⟩
theorem frCond {P : Program} {Q : Exit → Act → World → Prop} {a : Act} {w : World} {N t : Nat} {l : List (Nat × Value)} {x y : Code} {b : Bool} (F : Fr a N l) (hb : look l t = some (.bool b)) (h : (if b then x else y).wp P Q a w) : (Code.cond (.tmp t) x y).wp P Q a w :=
  wp_cond (t := b) (by exact F.ev t hb) h
theorem frNext {P : Program} {Q Q' : Exit → Act → World → Prop} {a : Act} {w : World} {c : Code} (h : c.wp P Q a w) : Exit.then (c.wp P Q) Q' .normal a w := h
theorem frBlock {P : Program} {Q : Exit → Act → World → Prop} {a : Act} {w : World} {id : Nat} {c : Code} (h : c.wp P (Exit.inBlock id Q) a w) : (Code.block id c).wp P Q a w := wp_block h
theorem frExit {P : Program} {Q : Exit → Act → World → Prop} {a : Act} {w : World} {id : Nat} (h : Q (.exit id) a w) : (Code.exit id).wp P Q a w := wp_exit h
theorem frThenRet {Q : Exit → Act → World → Prop} {f : Act → World → Prop} {a : Act} {w : World} (h : Q .ret a w) : Exit.then f Q .ret a w := h
theorem frGoto {P : Program} {Q : Exit → Act → World → Prop} {a : Act} {w : World} {l : Nat} (h : Q (.goto l) a w) : (Code.goto l).wp P Q a w := wp_goto h
theorem frThenG {Q : Exit → Act → World → Prop} {f : Act → World → Prop} {a : Act} {w : World} {l : Nat} (h : Q (.goto l) a w) : Exit.then f Q (.goto l) a w := h
theorem frBlkG {Q : Exit → Act → World → Prop} {a : Act} {w : World} {id l : Nat} (h : Q (.goto l) a w) : Exit.inBlock id Q (.goto l) a w := h
theorem frThenN {Q : Exit → Act → World → Prop} {f : Act → World → Prop} {a : Act} {w : World} (h : f a w) : Exit.then f Q .normal a w := h
theorem frThenE {Q : Exit → Act → World → Prop} {f : Act → World → Prop} {a : Act} {w : World} {id : Nat} (h : Q (.exit id) a w) : Exit.then f Q (.exit id) a w := h
theorem frBlkN {Q : Exit → Act → World → Prop} {a : Act} {w : World} {id : Nat} (h : Q .normal a w) : Exit.inBlock id Q .normal a w := h
theorem frBlkE {Q : Exit → Act → World → Prop} {a : Act} {w : World} {id : Nat} (h : Q .normal a w) : Exit.inBlock id Q (.exit id) a w := by simp only [Exit.inBlock, if_true]; exact h
theorem frBlkO {Q : Exit → Act → World → Prop} {a : Act} {w : World} {id id' : Nat} (hn : Nat.beq id' id = false) (h : Q (.exit id') a w) : Exit.inBlock id Q (.exit id') a w := by
  simp only [Exit.inBlock]
  rw [if_neg (fun e => by subst e; simp at hn)]
  exact h
theorem frBlkRet {Q : Exit → Act → World → Prop} {a : Act} {w : World} {id : Nat} (h : Q .ret a w) : Exit.inBlock id Q .ret a w := h
/-- A place where ways come together. -/
theorem frJoin {P : Program} {C : Act → World → Prop} {N : Nat} (l : List (Nat × Value)) (S : World → Prop) {a : Act} {w : World} (h1 : ∀ a w, Fr a N l → S w → C a w) (h2 : (∀ a w, Fr a N l → S w → C a w) → C a w) : C a w := h2 h1

section
variable {P : Program} {L : List Oper} {Q : Exit → Act → World → Prop} {S : World → Prop} {calls : List Nat} {k N d : Nat} {a : Act} {w : World} {l : List (Nat × Value)} {o : Oper} {v : Value}
theorem Fr.set (h : Fr a N l) (hd : o.dst = some d) (hN : Nat.blt d N = true) : Fr (a.put o.dst v) N ((d, v) :: l) := by
  have := h.put (o := o.dst) (v := v) (by rw [hd]; exact hN)
  rw [hd] at this
  rw [hd]
  exact this
theorem Fr.none (h : Fr a N l) (hd : o.dst = none) : Fr (a.put o.dst v) N l := by rw [hd]; exact h
/-- A region that draws stands at operation k. -/
def hAt (P : Program) (L : List Oper) (Q : Exit → Act → World → Prop) (S : World → Prop) (calls : List Nat) (k : Nat) (a : Act) (w : World) : Prop := wpHeld P L.toArray Q S calls (L.drop k) k a w
theorem hTake (F : Fr a N l) (ho : L[k]? = some o) (hd : o.dst = some d) (hN : Nat.blt d N = true) (hc : calls.contains k = false) (hw : wantF L l o = some true)
    (hy : ∀ w, S w → (execOp a.eval o).run P w = .ok (.value v) w) (h : ∀ a', Fr a' N ((d, v) :: l) → hAt P L Q S calls (k + 1) a' w) : hAt P L Q S calls k a w := by
  unfold hAt
  rw [drop_cons ho]
  exact hT hc (wantF_ok F hw) hy (h _ (F.set hd hN))
theorem hMove (F : Fr a N l) (ho : L[k]? = some o) (hd : o.dst = some d) (hN : Nat.blt d N = true) (hc : calls.contains k = false) (hw : wantF L l o = some true)
    (hy : pureF l o.op = some v) (h : ∀ a', Fr a' N ((d, v) :: l) → hAt P L Q S calls (k + 1) a' w) : hAt P L Q S calls k a w :=
  hTake F ho hd hN hc hw (fun _ _ => pureF_ok F hy) h
theorem hNot (F : Fr a N l) (ho : L[k]? = some o) (hd : o.dst = some d) (hN : Nat.blt d N = true) (hw : wantF L l o = some false)
    (h : ∀ a', Fr a' N ((d, undef) :: l) → hAt P L Q S calls (k + 1) a' w) : hAt P L Q S calls k a w := by
  unfold hAt
  rw [drop_cons ho]
  exact hU (wantF_ok F hw) (h _ (F.set hd hN))
theorem hRuns : ∀ (n : Nat) {k : Nat} {a : Act} {l : List (Nat × Value)} {k' : Nat} {l' : List (Nat × Value)}, Fr a N l → runF L calls N n k l = (k', l') → (∀ a', Fr a' N l' → hAt P L Q S calls k' a' w) → hAt P L Q S calls k a w
  | 0, k, a, l, k', l', F, e, h => by cases e; exact h a F
  | n + 1, k, a, l, k', l', F, e, h => by
    unfold runF at e
    split at e
    · cases e; exact h a F
    · rename_i o ho
      split at e
      · cases e; exact h a F
      · rename_i hd
        split at e
        · cases e; exact h a F
        · rename_i hw
          have := hRuns n (F.put (v := undef) hd) e h
          unfold hAt at this ⊢
          rw [drop_cons ho]
          exact hU (wantF_ok F hw) this
        · rename_i hw
          split at e
          · cases e; exact h a F
          · rename_i hc
            split at e
            · cases e; exact h a F
            · rename_i v hv
              have := hRuns n (F.put (v := v) hd) e h
              unfold hAt at this ⊢
              rw [drop_cons ho]
              exact hT hc (wantF_ok F hw) (fun _ _ => pureF_ok F hv) this
theorem hCall {f : FuncId} {args : Array Value} {R : Ending → World → Prop} (F : Fr a N l) (ho : L[k]? = some o) (hd : o.dst = some d) (hN : Nat.blt d N = true) (hc : calls.contains k = true) (hw : wantF L l o = some true)
    (hk : Calls P f args w R) (hy : (execOp a.eval o).run P w = .ok (.enter f args) w)
    (h : ∀ e w', R e w' → ∃ v, e = .returned v ∧ S w' ∧ ∀ a', Fr a' N ((d, v) :: l) → hAt P L Q S calls (k + 1) a' w') : hAt P L Q S calls k a w := by
  unfold hAt
  rw [drop_cons ho]
  refine hC hc (wantF_ok F hw) fun K hK => ?_
  unfold Oper.wp
  rw [hy, Oper.upon_enter]
  refine hk.mono ?_
  intro e w' hR
  obtain ⟨v, rfl, hS, hn⟩ := h e w' hR
  exact hK.out _ _ hS fun _ => hn _ (F.set hd hN)
theorem hVal {w' : World} (F : Fr a N l) (ho : L[k]? = some o) (hd : o.dst = some d) (hN : Nat.blt d N = true) (hc : calls.contains k = true) (hw : wantF L l o = some true)
    (hy : (execOp a.eval o).run P w = .ok (.value v) w') (hS : S w') (h : ∀ a', Fr a' N ((d, v) :: l) → hAt P L Q S calls (k + 1) a' w') : hAt P L Q S calls k a w := by
  unfold hAt
  rw [drop_cons ho]
  refine hC hc (wantF_ok F hw) fun K hK => ?_
  unfold Oper.wp
  rw [hy, Oper.upon_value]
  exact hK.out _ _ hS fun _ => h _ (F.set hd hN)
theorem hStore {w' : World} (F : Fr a N l) (ho : L[k]? = some o) (hd : o.dst = .none) (hc : calls.contains k = true) (hw : wantF L l o = some true)
    (hy : (execOp a.eval o).run P w = .ok .skip w') (hS : S w') (h : ∀ a', Fr a' N l → hAt P L Q S calls (k + 1) a' w') : hAt P L Q S calls k a w := by
  unfold hAt
  rw [drop_cons ho]
  refine hC hc (wantF_ok F hw) fun K hK => ?_
  unfold Oper.wp
  rw [hy, Oper.upon_skip]
  exact hK.out _ _ hS fun _ => h _ (F.none hd)
theorem hJoin (k' : Nat) (l' : List (Nat × Value)) (N : Nat) (h1 : ∀ a w, Fr a N l' → S w → hAt P L Q S calls k' a w) (h2 : (∀ a w, Fr a N l' → S w → hAt P L Q S calls k' a w) → hAt P L Q S calls k a w) : hAt P L Q S calls k a w := h2 h1
theorem hFin (hk : Nat.ble L.length k = true) (h : Q .normal a w) : hAt P L Q S calls k a w := by
  unfold hAt
  rw [List.drop_eq_nil_of_le (Nat.le_of_ble_eq_true hk)]
  exact h
theorem hGo {id : Nat} (calls : List Nat) (S : World → Prop) (hm : P.follows .mixedOrders = true) (hs : Region.noSelect L.toArray = true) (hB : heldB .any L.toArray calls L.length 0 (Array.replicate L.length false) = true)
    (hQ : ∀ c d v a w, Q (.panic c) (a.put d v) w → Q (.panic c) a w) (hS : S w.drew) (h : hAt P L Q S calls 0 a w.drew) : (Code.region id L.toArray true).wp P Q a w :=
  wp_region_heldL calls hm hs hB hQ hS fun _ => h
/-- A region that keeps its order stands at operation k. -/
def kAt (P : Program) (L : List Oper) (Q : Exit → Act → World → Prop) (k : Nat) (a : Act) (w : World) : Prop := wpList P L.toArray Q (L.drop k) a w
theorem kGo {id : Nat} (hk : kAt P L Q 0 a w) : (Code.region id L.toArray false).wp P Q a w := wp_region_lit hk
theorem kVal {w' : World} (F : Fr a N l) (ho : L[k]? = some o) (hd : o.dst = some d) (hN : Nat.blt d N = true) (hw : wantF L l o = some true)
    (hy : (execOp a.eval o).run P w = .ok (.value v) w') (h : ∀ a', Fr a' N ((d, v) :: l) → kAt P L Q (k + 1) a' w') : kAt P L Q k a w := by
  unfold kAt
  rw [drop_cons ho]
  refine inC (wantF_ok F hw) fun K hK => ?_
  unfold Oper.wp
  rw [hy, Oper.upon_value]
  exact hK.out _ _ (h _ (F.set hd hN))
theorem kTake (F : Fr a N l) (ho : L[k]? = some o) (hd : o.dst = some d) (hN : Nat.blt d N = true) (hw : wantF L l o = some true)
    (hy : (execOp a.eval o).run P w = .ok (.value v) w) (h : ∀ a', Fr a' N ((d, v) :: l) → kAt P L Q (k + 1) a' w) : kAt P L Q k a w :=
  kVal F ho hd hN hw hy h
theorem kMove (F : Fr a N l) (ho : L[k]? = some o) (hd : o.dst = some d) (hN : Nat.blt d N = true) (hw : wantF L l o = some true)
    (hy : pureF l o.op = some v) (h : ∀ a', Fr a' N ((d, v) :: l) → kAt P L Q (k + 1) a' w) : kAt P L Q k a w :=
  kTake F ho hd hN hw (pureF_ok F hy) h
theorem kNot (F : Fr a N l) (ho : L[k]? = some o) (hd : o.dst = some d) (hN : Nat.blt d N = true) (hw : wantF L l o = some false)
    (h : ∀ a', Fr a' N ((d, undef) :: l) → kAt P L Q (k + 1) a' w) : kAt P L Q k a w := by
  unfold kAt
  rw [drop_cons ho]
  exact inU (wantF_ok F hw) (h _ (F.set hd hN))
theorem kStore {w' : World} (F : Fr a N l) (ho : L[k]? = some o) (hd : o.dst = .none) (hw : wantF L l o = some true)
    (hy : (execOp a.eval o).run P w = .ok .skip w') (h : ∀ a', Fr a' N l → kAt P L Q (k + 1) a' w') : kAt P L Q k a w := by
  unfold kAt
  rw [drop_cons ho]
  refine inC (wantF_ok F hw) fun K hK => ?_
  unfold Oper.wp
  rw [hy, Oper.upon_skip]
  exact hK.out _ _ (h _ (F.none hd))
theorem kCall {f : FuncId} {args : Array Value} {R : Ending → World → Prop} (F : Fr a N l) (ho : L[k]? = some o) (hd : o.dst = some d) (hN : Nat.blt d N = true) (hw : wantF L l o = some true)
    (hk : Calls P f args w R) (hy : (execOp a.eval o).run P w = .ok (.enter f args) w)
    (h : ∀ e w', R e w' → ∃ v, e = .returned v ∧ ∀ a', Fr a' N ((d, v) :: l) → kAt P L Q (k + 1) a' w') : kAt P L Q k a w := by
  unfold kAt
  rw [drop_cons ho]
  refine inC (wantF_ok F hw) fun K hK => ?_
  unfold Oper.wp
  rw [hy, Oper.upon_enter]
  refine hk.mono ?_
  intro e w' hR
  obtain ⟨v, rfl, hn⟩ := h e w' hR
  exact hK.out _ _ (hn _ (F.set hd hN))
theorem kAppB {w0 : World} (base : Nat) (F : Fr a N l) (ho : L[k]? = some o) (hd : o.dst = some d) (hN : Nat.blt d N = true) (hw : wantF L l o = some true) {s x : Nat} {t e : TypeId}
    (hop : o.op = .call { callee := .builtin .append, args := #[.tmp s, .tmp x], argTypes := #[t, t] })
    (ht : P.underlying t = some (.slice e)) (hinfo : (P.info? e).map (fun i => (i.zero, i.size, i.bytes)) = some (some (.int .u8 0), 1, 1)) {m c : Nat} {xs ys : List UInt8} {A : Option Addr}
    (hs : look l s = some v) (hx : look l x = some (.slice A m c)) (HO : OwnB e w base v xs) (HR : IsB w A m c ys) (HB : Below base w0 w) (hbase : base ≤ w.heap.size) (hl : xs.length + m ≤ 140737488355328)
    (h : ∀ v1 w1, OwnB e w1 base v1 (xs ++ ys) → Below base w0 w1 → w.grownBy w1 v.ownBlock → ∀ a', Fr a' N ((d, v1) :: l) → kAt P L Q (k + 1) a' w1) : kAt P L Q k a w := by
  unfold kAt
  rw [drop_cons ho]
  refine inC (wantF_ok F hw) fun K hK => ?_
  exact wp_append_b base (.tmp s) (.tmp x) t e hop ht hinfo v m xs ys A c (F.ev s hs) (F.ev x hx) HO HR HB hbase hl fun v1 w1 h1 h2 h3 _ => hK.out _ _ (h v1 w1 h1 h2 h3 _ (F.set hd hN))
theorem kAppA {p : Value → Prop} (base : Nat) (F : Fr a N l) (hl0 : L[k]? = some o) (hd : o.dst = some d) (hN : Nat.blt d N = true) (hw : wantF L l o = some true) {s x : Nat} {t e : TypeId} {z : Value} {size bytes : Nat}
    (ho : o.op = .call { callee := .builtin .append, args := #[.tmp s, .tmp x], argTypes := #[t, t] })
    (ht : P.underlying t = some (.slice e)) (hinfo : (P.info? e).map (fun i => (i.zero, i.size, i.bytes)) = some (some z, size, bytes)) (hz : z.cells.size = size) (hsz : 0 < size) (hb0 : 0 < bytes)
    {n m : Nat} {cs ds : List Value} {ad : Addr} {c : Nat} (hs : look l s = some v) (hx : look l x = some (.slice (some ad) m c))
    (HO : w.ownsRow base e size v n cs) (HR : ∀ j u, ds[j]? = some u → w.cell? (ad.add j) = some u) (hm : ds.length = m * size) (h1 : ∀ u ∈ ds, u.oneCell' = true) (hbase : base ≤ w.heap.size) (hl : (n + m) * bytes ≤ 140737488355328)
    (hold : OwnAll p w v) (hpz : ∀ u ∈ z.cells.toList, p u) (hpn : ∀ u ∈ ds, p u) (hpx : ∀ u ∈ cs, p u)
    (h : ∀ v1 w1, w1.ownsRow base e size v1 (n + m) (cs ++ ds) → OwnAll p w1 v1 → w.grownBy w1 v.ownBlock → (v1.ownBlock = v.ownBlock ∨ v1.ownBlock = some w.heap.size) → ∀ a', Fr a' N ((d, v1) :: l) → kAt P L Q (k + 1) a' w1) : kAt P L Q k a w := by
  unfold kAt
  rw [drop_cons hl0]
  refine inC (wantF_ok F hw) fun K hK => ?_
  exact wp_append_all base (.tmp s) (.tmp x) t e z size bytes ho ht hinfo hz hsz hb0 v n m cs ds ad c (F.ev s hs) (F.ev x hx) HO HR hm h1 hbase hl hold hpz hpn hpx fun v1 w1 r1 r2 r3 r4 => hK.out _ _ (h v1 w1 r1 r2 r3 r4 _ (F.set hd hN))
theorem kRuns : ∀ (n : Nat) {k : Nat} {a : Act} {l : List (Nat × Value)} {k' : Nat} {l' : List (Nat × Value)}, Fr a N l → runF L [] N n k l = (k', l') → (∀ a', Fr a' N l' → kAt P L Q k' a' w) → kAt P L Q k a w
  | 0, k, a, l, k', l', F, e, h => by cases e; exact h a F
  | n + 1, k, a, l, k', l', F, e, h => by
    unfold runF at e
    split at e
    · cases e; exact h a F
    · rename_i o ho
      split at e
      · cases e; exact h a F
      · rename_i hd
        split at e
        · cases e; exact h a F
        · rename_i hw
          have := kRuns n (F.put (v := undef) hd) e h
          unfold kAt at this ⊢
          rw [drop_cons ho]
          exact inU (wantF_ok F hw) this
        · rename_i hw
          split at e
          · cases e; exact h a F
          · rename_i hc
            split at e
            · cases e; exact h a F
            · rename_i v hv
              have := kRuns n (F.put (v := v) hd) e h
              unfold kAt at this ⊢
              rw [drop_cons ho]
              exact inT (wantF_ok F hw) (pureF_ok F hv) this
theorem kFin (hk : Nat.ble L.length k = true) (h : Q .normal a w) : kAt P L Q k a w := by
  unfold kAt
  rw [List.drop_eq_nil_of_le (Nat.le_of_ble_eq_true hk)]
  exact h
/-- A region that draws, with no condition kept: where several operations may come up, each is walked first. -/
def gAt (P : Program) (L : List Oper) (Q : Exit → Act → World → Prop) (fuel : Nat) (listed : Array Bool) (a : Act) (w : World) : Prop := wpAnyH P .any L.toArray Q (fun _ => True) fuel listed a w
def Go1 (P : Program) (o : Oper) (a : Act) (w : World) (Q : Exit → Act → World → Prop) (G : Act → World → Prop) : Prop := ∀ K : Act → World → Prop, Shut (∀ a' w', G a' w' → K a' w') → o.wp P a w K Q
variable {G : Act → World → Prop} {fuel : Nat} {listed : Array Bool}
theorem o1Val {w' : World} (F : Fr a N l) (hd : o.dst = some d) (hN : Nat.blt d N = true) (hy : (execOp a.eval o).run P w = .ok (.value v) w') (h : ∀ a', Fr a' N ((d, v) :: l) → G a' w') : Go1 P o a w Q G := fun K hK => by
  unfold Oper.wp
  rw [hy, Oper.upon_value]
  exact hK.out _ _ (h _ (F.set hd hN))
theorem o1Take (F : Fr a N l) (hd : o.dst = some d) (hN : Nat.blt d N = true) (hy : (execOp a.eval o).run P w = .ok (.value v) w) (h : ∀ a', Fr a' N ((d, v) :: l) → G a' w) : Go1 P o a w Q G := o1Val F hd hN hy h
theorem o1Store {w' : World} (F : Fr a N l) (hd : o.dst = .none) (hy : (execOp a.eval o).run P w = .ok .skip w') (h : ∀ a', Fr a' N l → G a' w') : Go1 P o a w Q G := fun K hK => by
  unfold Oper.wp
  rw [hy, Oper.upon_skip]
  exact hK.out _ _ (h _ (F.none hd))
theorem o1Call {f : FuncId} {args : Array Value} {R : Ending → World → Prop} (F : Fr a N l) (hd : o.dst = some d) (hN : Nat.blt d N = true) (hk : Calls P f args w R) (hy : (execOp a.eval o).run P w = .ok (.enter f args) w)
    (h : ∀ e w', R e w' → ∃ v, e = .returned v ∧ ∀ a', Fr a' N ((d, v) :: l) → G a' w') : Go1 P o a w Q G := fun K hK => by
  unfold Oper.wp
  rw [hy, Oper.upon_enter]
  refine hk.mono ?_
  intro e w' hR
  obtain ⟨v, rfl, hn⟩ := h e w' hR
  exact hK.out _ _ (hn _ (F.set hd hN))
theorem o1App {p : Value → Prop} (base : Nat) (F : Fr a N l) (hd : o.dst = some d) (hN : Nat.blt d N = true) {s x : Nat} {t e : TypeId} {z : Value} {size bytes : Nat}
    (ho : o.op = .call { callee := .builtin .append, args := #[.tmp s, .tmp x], argTypes := #[t, t] })
    (ht : P.underlying t = some (.slice e)) (hinfo : (P.info? e).map (fun i => (i.zero, i.size, i.bytes)) = some (some z, size, bytes)) (hz : z.cells.size = size) (hsz : 0 < size) (hb0 : 0 < bytes)
    {n m : Nat} {cs ds : List Value} {ad : Addr} {c : Nat} (hs : look l s = some v) (hx : look l x = some (.slice (some ad) m c))
    (HO : w.ownsRow base e size v n cs) (HR : ∀ j u, ds[j]? = some u → w.cell? (ad.add j) = some u) (hm : ds.length = m * size) (h1 : ∀ u ∈ ds, u.oneCell' = true) (hbase : base ≤ w.heap.size) (hl : (n + m) * bytes ≤ 140737488355328)
    (hold : OwnAll p w v) (hpz : ∀ u ∈ z.cells.toList, p u) (hpn : ∀ u ∈ ds, p u) (hpx : ∀ u ∈ cs, p u)
    (h : ∀ v1 w1, w1.ownsRow base e size v1 (n + m) (cs ++ ds) → OwnAll p w1 v1 → w.grownBy w1 v.ownBlock → (v1.ownBlock = v.ownBlock ∨ v1.ownBlock = some w.heap.size) → ∀ a', Fr a' N ((d, v1) :: l) → G a' w1) : Go1 P o a w Q G := fun K hK =>
  wp_append_all base (.tmp s) (.tmp x) t e z size bytes ho ht hinfo hz hsz hb0 v n m cs ds ad c (F.ev s hs) (F.ev x hx) HO HR hm h1 hbase hl hold hpz hpn hpx fun v1 w1 r1 r2 r3 r4 => hK.out _ _ (h v1 w1 r1 r2 r3 r4 _ (F.set hd hN))
theorem gFree (i : Nat) (F : Fr a N l) (ho : L[i]? = some o) (hd : o.dst = some d) (hN : Nat.blt d N = true) (hw : wantF L l o = some true) (hs : Region.noSelect L.toArray = true) (hf : Region.free .any L.toArray listed i = true)
    (hr : (Region.ready .any L.toArray listed).contains i = true) (hQ : ∀ c d v a w, Q (.panic c) (a.put d v) w → Q (.panic c) a w) (hy : ∀ w, (execOp a.eval o).run P w = .ok (.value v) w)
    (h : ∀ a', Fr a' N ((d, v) :: l) → gAt P L Q fuel (listed.setIfInBounds i true) a' w) : gAt P L Q (fuel + 1) listed a w :=
  wpAnyH_take (i := i) (oi := o) (by simpa using ho) hs hf hr (fun c a w => hQ c o.dst v a w) (Or.inl ⟨wantF_ok F hw, fun w _ => hy w⟩) trivial (h _ (F.set hd hN))
theorem gSolo (i : Nat) (F : Fr a N l) (ho : L[i]? = some o) (hr : Region.ready .any L.toArray listed = [i]) (hw : wantF L l o = some true) (h : Go1 P o a w Q (gAt P L Q fuel (listed.setIfInBounds i true))) : gAt P L Q (fuel + 1) listed a w :=
  wpAnyH_ready hr (by simp) (AllReadyH.cons (by simpa using ho) (fun K hK => by rw [if_pos (wantF_ok F hw)]; exact h K (fun a w hg => hK.out a w trivial fun _ => hg)) AllReadyH.nil)
theorem gDuo (i j : Nat) {o' : Oper} (F : Fr a N l) (ho : L[i]? = some o) (ho' : L[j]? = some o') (hr : Region.ready .any L.toArray listed = [i, j]) (hw : wantF L l o = some true) (hw' : wantF L l o' = some true)
    (h : Go1 P o a w Q (gAt P L Q fuel (listed.setIfInBounds i true))) (h' : Go1 P o' a w Q (gAt P L Q fuel (listed.setIfInBounds j true))) : gAt P L Q (fuel + 1) listed a w :=
  wpAnyH_ready hr (by simp) (AllReadyH.cons (by simpa using ho) (fun K hK => by rw [if_pos (wantF_ok F hw)]; exact h K (fun a w hg => hK.out a w trivial fun _ => hg))
    (AllReadyH.cons (by simpa using ho') (fun K hK => by rw [if_pos (wantF_ok F hw')]; exact h' K (fun a w hg => hK.out a w trivial fun _ => hg)) AllReadyH.nil))
theorem gCast {l1 l2 : Array Bool} (e : l1 = l2) (h : gAt P L Q fuel l2 a w) : gAt P L Q fuel l1 a w := by subst e; exact h
theorem gJoin (C : Act → World → Prop) (l2 : Array Bool) (f2 : Nat) (h1 : ∀ a w, C a w → gAt P L Q f2 l2 a w) (h2 : (∀ a w, C a w → gAt P L Q f2 l2 a w) → gAt P L Q fuel listed a w) : gAt P L Q fuel listed a w := h2 h1
theorem gFin (hr : Region.ready .any L.toArray listed = []) (h : Q .normal a w) : gAt P L Q 0 listed a w := ⟨hr, h⟩
theorem gGo {id n : Nat} (hn : L.length = n) (hm : P.follows .mixedOrders = true) (h : gAt P L Q n (Array.replicate n false) a w.drew) : (Code.region id L.toArray true).wp P Q a w := by
  subst hn
  exact wp_region_held_drew (S := fun _ => True) hm trivial fun _ => by simpa [gAt] using h
/-- A region that draws, under a condition on the worlds, in an order of one's own. -/
def sAt (P : Program) (L : List Oper) (Q : Exit → Act → World → Prop) (S : World → Prop) (fuel : Nat) (listed : Array Bool) (a : Act) (w : World) : Prop := wpAnyH P .any L.toArray Q S fuel listed a w
theorem sFree (i : Nat) (F : Fr a N l) (ho : L[i]? = some o) (hd : o.dst = some d) (hN : Nat.blt d N = true) (hw : wantF L l o = some true) (hs : Region.noSelect L.toArray = true) (hf : Region.free .any L.toArray listed i = true)
    (hr : (Region.ready .any L.toArray listed).contains i = true) (hQ : ∀ c d v a w, Q (.panic c) (a.put d v) w → Q (.panic c) a w) (hS : S w) (hy : ∀ w, S w → (execOp a.eval o).run P w = .ok (.value v) w)
    (h : ∀ a', Fr a' N ((d, v) :: l) → sAt P L Q S fuel (listed.setIfInBounds i true) a' w) : sAt P L Q S (fuel + 1) listed a w :=
  wpAnyH_take (i := i) (oi := o) (by simpa using ho) hs hf hr (fun c a w => hQ c o.dst v a w) (Or.inl ⟨wantF_ok F hw, hy⟩) hS (h _ (F.set hd hN))
theorem sMove (i : Nat) (F : Fr a N l) (ho : L[i]? = some o) (hd : o.dst = some d) (hN : Nat.blt d N = true) (hw : wantF L l o = some true) (hs : Region.noSelect L.toArray = true) (hf : Region.free .any L.toArray listed i = true)
    (hr : (Region.ready .any L.toArray listed).contains i = true) (hQ : ∀ c d v a w, Q (.panic c) (a.put d v) w → Q (.panic c) a w) (hS : S w) (hy : pureF l o.op = some v)
    (h : ∀ a', Fr a' N ((d, v) :: l) → sAt P L Q S fuel (listed.setIfInBounds i true) a' w) : sAt P L Q S (fuel + 1) listed a w :=
  sFree i F ho hd hN hw hs hf hr hQ hS (fun _ _ => pureF_ok F hy) h
theorem sNot (i : Nat) (F : Fr a N l) (ho : L[i]? = some o) (hd : o.dst = some d) (hN : Nat.blt d N = true) (hw : wantF L l o = some false) (hs : Region.noSelect L.toArray = true) (hf : Region.free .any L.toArray listed i = true)
    (hr : (Region.ready .any L.toArray listed).contains i = true) (hQ : ∀ c d v a w, Q (.panic c) (a.put d v) w → Q (.panic c) a w) (hS : S w)
    (h : ∀ a', Fr a' N ((d, undef) :: l) → sAt P L Q S fuel (listed.setIfInBounds i true) a' w) : sAt P L Q S (fuel + 1) listed a w :=
  wpAnyH_take (i := i) (oi := o) (by simpa using ho) hs hf hr (fun c a w => hQ c o.dst undef a w) (Or.inr ⟨wantF_ok F hw, rfl⟩) hS (h _ (F.set hd hN))
theorem sSolo (i : Nat) (F : Fr a N l) (ho : L[i]? = some o) (hr : Region.ready .any L.toArray listed = [i]) (hw : wantF L l o = some true) (h : Go1 P o a w Q (fun a' w' => S w' ∧ sAt P L Q S fuel (listed.setIfInBounds i true) a' w')) : sAt P L Q S (fuel + 1) listed a w :=
  wpAnyH_ready hr (by simp) (AllReadyH.cons (by simpa using ho) (fun K hK => by rw [if_pos (wantF_ok F hw)]; exact h K (fun a w hg => hK.out a w hg.1 fun _ => hg.2)) AllReadyH.nil)
theorem sFin (hr : Region.ready .any L.toArray listed = []) (h : Q .normal a w) : sAt P L Q S 0 listed a w := ⟨hr, h⟩
theorem sGo {id n : Nat} (S : World → Prop) (hn : L.length = n) (hm : P.follows .mixedOrders = true) (hS : S w.drew) (h : sAt P L Q S n (Array.replicate n false) a w.drew) : (Code.region id L.toArray true).wp P Q a w := by
  subst hn
  exact wp_region_held_drew (S := S) hm hS fun _ => by simpa [sAt] using h
end
end Go.Proofs.YtnakanophilfhaaDoor
