/- Ops, in plain lists: which may be; their bytes. -/
import Derived.Test.YtnakanophilfhaaDoorSpB
import Derived.Test.YtnakanophilfhaaDoorVbB
namespace Go.Proofs.YtnakanophilfhaaDoor
open Go.RowKit Go.Dio
set_option linter.unusedVariables false
set_option linter.unusedSimpArgs false

/-- What a kind names. -/
def pNode (k : Int) : Bool := decide (2 ≤ k ∧ k ≤ 6)
def pRef (k : Int) : Bool := decide (k = 1 ∨ k = 2 ∨ k = 5)
def pKey (k : Int) : Bool := decide (k = 1 ∨ k = 2)
def pPath (k : Int) : Bool := decide (k = 6)
def pProp (k : Int) : Bool := decide (k = 3 ∨ k = 6)
def pOn (k : Int) : Bool := decide (k = 4)
def sNode (t r : Int) : Bool := sright t r && decide (0 < t)
def isRoot (t r : Int) : Bool := decide (t = 0 ∧ r = 0)
def sPlace (t r : Int) : Bool := sNode t r || isRoot t r || decide (t = 0 ∧ r = 1)
def keyR (s : ByteArray) : Bool := decide (s.data.toList ≠ [] ∧ s.size ≤ 24 ∧ s.data.toList.getLast? ≠ some 0)
/-- An op. -/
structure OpD where
  k : Int
  n1 : Int
  n2 : Int
  r1 : Int
  r2 : Int
  key : ByteArray
  path : List (Int × Int)
  prop : Int
  vk : Int
  vn : Int
  vt : ByteArray
  on : Bool
def fits (named zero fine : Bool) : Bool := named && fine || !named && zero
def opTo (d : OpD) : Bool := if d.k = 5 then sNode d.r1 d.r2 || isRoot d.r1 d.r2 else sPlace d.r1 d.r2
def opWay (d : OpD) : Bool := decide (0 < d.path.length) && decide (d.path.length ≤ 8) && d.path.all fun p => sNode p.1 p.2
def vzero (k n : Int) (t : ByteArray) : Bool := decide (k = 0 ∧ n = 0 ∧ t.data.toList = [])
/-- The conditions, one by one. -/
def oc1 (d : OpD) : Bool := pNode d.k || pRef d.k
def oc2 (d : OpD) : Bool := fits (pNode d.k) (isRoot d.n1 d.n2) (sNode d.n1 d.n2)
def oc3 (d : OpD) : Bool := fits (pRef d.k) (isRoot d.r1 d.r2) (opTo d)
def oc4 (d : OpD) : Bool := fits (pKey d.k) (decide (d.key.data.toList = [])) (keyR d.key)
def oc5 (d : OpD) : Bool := fits (pPath d.k) (decide (d.path.length = 0)) (opWay d)
/-- The kind of a property, and whether a value may be there. -/
def kind8 (p : Int) : Int := if p = 1 ∨ p = 2 then 4 else if p = 3 then 3 else if 4 ≤ p ∧ p ≤ 7 then 2 else if p = 8 then 1 else -1
def vright8 (p k n : Int) (s : ByteArray) : Bool := decide (kind8 p ≠ -1) && (vright k n s && (decide (k = 0) || decide (k = kind8 p)))
def oc6 (d : OpD) : Bool := fits (pProp d.k) (decide (d.prop = 0) && vzero d.vk d.vn d.vt) (vright8 d.prop d.vk d.vn d.vt)
def oc7 (d : OpD) : Bool := pOn d.k || !d.on
def oright (d : OpD) : Bool := oc1 d && oc2 d && oc3 d && oc4 d && oc5 d && oc6 d && oc7 d
/-- Its bytes. -/
def pathB (l : List (Int × Int)) : List UInt8 := l.flatMap fun p => stB p.1 p.2
def opB (d : OpD) : List UInt8 :=
  numB d.k.toNat ++ ((if pNode d.k = true then stB d.n1 d.n2 else []) ++ ((if pRef d.k = true then stB d.r1 d.r2 else []) ++ ((if pKey d.k = true then textB d.key.data.toList else []) ++
    ((if pPath d.k = true then numB d.path.length ++ pathB d.path else []) ++ ((if pProp d.k = true then numB d.prop.toNat ++ vB d.vk d.vn d.vt else []) ++ (if pOn d.k = true then numB (if d.on = true then 1 else 0) else []))))))
/-- So many stamps of a reader. -/
def rPath : Nat → Rst → List (Int × Int) × Rst
  | 0, s => ([], s)
  | n + 1, s => ((tStamp s).1 :: (rPath n (tStamp s).2).1, (rPath n (tStamp s).2).2)
theorem rPath_pathB : ∀ (l : List (Int × Int)) (u : List UInt8), (∀ p ∈ l, sright p.1 p.2 = true) → rPath l.length (pathB l ++ u, 0) = (l, (u, 0))
  | [], u, _ => rfl
  | p :: l, u, h => by
    have e : pathB (p :: l) ++ u = stB p.1 p.2 ++ (pathB l ++ u) := by simp [pathB]
    have h1 := tStamp_stB p.1 p.2 (pathB l ++ u) (h p (List.mem_cons_self ..))
    have h2 := rPath_pathB l u (fun q hq => h q (List.mem_cons_of_mem _ hq))
    simp only [List.length_cons, rPath, e, h1, h2]
/-- A row of stamps from a reader, one more. -/
theorem rPath_snoc : ∀ (n : Nat) (s : Rst), rPath (n + 1) s = ((rPath n s).1 ++ [(tStamp (rPath n s).2).1], (tStamp (rPath n s).2).2)
  | 0, s => rfl
  | n + 1, s => by
    have := rPath_snoc n (tStamp s).2
    rw [show rPath (n + 1 + 1) s = ((tStamp s).1 :: (rPath (n + 1) (tStamp s).2).1, (rPath (n + 1) (tStamp s).2).2) from rfl, this]
    rfl
theorem rPath_len : ∀ (n : Nat) (s : Rst), (rPath n s).1.length = n
  | 0, s => rfl
  | n + 1, s => by simp [rPath, rPath_len n]
/-- The parts of an op, as they are read. -/
def rdNode (k : Int) (s : Rst) : (Int × Int) × Rst := if pNode k = true then tStamp s else ((0, 0), s)
def rdRef (k : Int) (s : Rst) : (Int × Int) × Rst := if pRef k = true then tStamp s else ((0, 0), s)
def rdKey (k : Int) (s : Rst) : List UInt8 × Rst := if pKey k = true then rText s else ([], s)
def rdPath (k : Int) (s : Rst) : List (Int × Int) × Rst := if pPath k = true then rPath (rUpto 8 s).1.toNat (rUpto 8 s).2 else ([], s)
def rdProp (k : Int) (s : Rst) : (Int × Int × Int × ByteArray) × Rst :=
  if pProp k = true then (((rUpto 281474976710655 s).1, (tVal (rUpto 281474976710655 s).2).1), (tVal (rUpto 281474976710655 s).2).2) else ((0, 0, 0, ⟨#[]⟩), s)
def rdOn (k : Int) (s : Rst) : Bool × Rst := if pOn k = true then (decide ((rUpto 1 s).1 = 1), (rUpto 1 s).2) else (false, s)
def opRead (s : Rst) : OpD × Rst :=
  let k := rUpto 281474976710655 s
  let n := rdNode k.1 k.2
  let r := rdRef k.1 n.2
  let y := rdKey k.1 r.2
  let p := rdPath k.1 y.2
  let v := rdProp k.1 p.2
  let o := rdOn k.1 v.2
  (⟨k.1, n.1.1, n.1.2, r.1.1, r.1.2, mkS y.1, p.1, v.1.1, v.1.2.1, v.1.2.2.1, v.1.2.2.2, o.1⟩, o.2)
def opNil : OpD := ⟨0, 0, 0, 0, 0, ⟨#[]⟩, [], 0, 0, 0, ⟨#[]⟩, false⟩
/-- What the look makes of it. -/
def opLook (d : OpD) (s : Rst) : OpD × Rst := if oright d = true then (if s.2 = 0 then (d, s) else (opNil, s)) else (opNil, rFail s 21)
def tOp (s : Rst) : OpD × Rst := opLook (opRead s).1 (opRead s).2
theorem oright_cs {d : OpD} (h : oright d = true) : oc1 d = true ∧ oc2 d = true ∧ oc3 d = true ∧ oc4 d = true ∧ oc5 d = true ∧ oc6 d = true ∧ oc7 d = true := by
  simp only [oright, Bool.and_eq_true] at h
  obtain ⟨⟨⟨⟨⟨⟨h1, h2⟩, h3⟩, h4⟩, h5⟩, h6⟩, h7⟩ := h
  exact ⟨h1, h2, h3, h4, h5, h6, h7⟩
theorem fits_yes {a b c : Bool} (h : fits a b c = true) (ha : a = true) : c = true := by subst ha; simpa [fits] using h
theorem fits_no {a b c : Bool} (h : fits a b c = true) (ha : a = false) : b = true := by subst ha; simpa [fits] using h
theorem kind_bd {d : OpD} (h : oc1 d = true) : 1 ≤ d.k ∧ d.k ≤ 6 := by
  simp only [oc1, pNode, pRef, Bool.or_eq_true, decide_eq_true_eq] at h
  omega
theorem sNode_right {t r : Int} (h : sNode t r = true) : sright t r = true := by simp only [sNode, Bool.and_eq_true] at h; exact h.1
theorem isRoot_right {t r : Int} (h : isRoot t r = true) : sright t r = true := by
  simp only [isRoot, decide_eq_true_eq] at h; obtain ⟨rfl, rfl⟩ := h; decide
theorem sPlace_right {t r : Int} (h : sPlace t r = true) : sright t r = true := by
  simp only [sPlace, Bool.or_eq_true] at h
  rcases h with (h | h) | h
  · exact sNode_right h
  · exact isRoot_right h
  · simp only [decide_eq_true_eq] at h; obtain ⟨rfl, rfl⟩ := h; decide
theorem opTo_right {d : OpD} (h : opTo d = true) : sright d.r1 d.r2 = true := by
  unfold opTo at h
  split at h
  · simp only [Bool.or_eq_true] at h
    rcases h with h | h
    · exact sNode_right h
    · exact isRoot_right h
  · exact sPlace_right h
theorem isRoot_eq {t r : Int} (h : isRoot t r = true) : t = 0 ∧ r = 0 := by simpa [isRoot] using h
/-- The stage's theorem, in plain lists: an op that may be is read as it was written. -/
theorem tOp_opB (d : OpD) (u : List UInt8) (h : oright d = true) : tOp (opB d ++ u, 0) = (d, (u, 0)) := by
  obtain ⟨h1, h2, h3, h4, h5, h6, h7⟩ := oright_cs h
  have hk := kind_bd h1
  have key : opRead (opB d ++ u, 0) = (d, (u, 0)) := by
    obtain ⟨k, n1, n2, r1, r2, key, path, prop, vk, vn, vt, on⟩ := d
    simp only at hk
    simp only [oc2] at h2; simp only [oc3] at h3; simp only [oc4] at h4; simp only [oc5] at h5; simp only [oc6] at h6; simp only [oc7] at h7
    simp only [opB, List.append_assoc]
    have e0 : ∀ x, rUpto 281474976710655 (numB k.toNat ++ x, 0) = (k, (x, 0)) := fun x => by
      rw [rUpto_numB k.toNat _ _ (by omega) (by omega), Int.toNat_of_nonneg (by omega)]
    have e1 : ∀ x, rdNode k ((if pNode k = true then stB n1 n2 else []) ++ x, 0) = ((n1, n2), (x, 0)) := fun x => by
      unfold rdNode
      split
      · rename_i hp; exact tStamp_stB n1 n2 x (sNode_right (fits_yes h2 hp))
      · rename_i hp; obtain ⟨rfl, rfl⟩ := isRoot_eq (fits_no h2 (by simpa using hp)); rfl
    have e2 : ∀ x, rdRef k ((if pRef k = true then stB r1 r2 else []) ++ x, 0) = ((r1, r2), (x, 0)) := fun x => by
      unfold rdRef
      split
      · rename_i hp; exact tStamp_stB r1 r2 x (opTo_right (fits_yes h3 hp))
      · rename_i hp; obtain ⟨rfl, rfl⟩ := isRoot_eq (fits_no h3 (by simpa using hp)); rfl
    have e3 : ∀ x, rdKey k ((if pKey k = true then textB key.data.toList else []) ++ x, 0) = (key.data.toList, (x, 0)) := fun x => by
      unfold rdKey
      split
      · rename_i hp
        have := fits_yes h4 hp
        simp only [keyR, decide_eq_true_eq] at this
        exact rText_textB key.data.toList x (by rw [Array.length_toList]; have e : key.data.size = key.size := rfl; omega)
      · rename_i hp
        have := fits_no h4 (by simpa using hp)
        simp only [decide_eq_true_eq] at this
        rw [this]; rfl
    have e4 : ∀ x, rdPath k ((if pPath k = true then numB path.length ++ pathB path else []) ++ x, 0) = (path, (x, 0)) := fun x => by
      unfold rdPath
      split
      · rename_i hp
        have hw := fits_yes h5 hp
        simp only [opWay, Bool.and_eq_true, decide_eq_true_eq] at hw
        have e : rUpto 8 (numB path.length ++ (pathB path ++ x), 0) = ((path.length : Int), (pathB path ++ x, 0)) := rUpto_numB _ _ _ (by omega) (by omega)
        rw [List.append_assoc, e]
        simp only [Int.toNat_natCast]
        exact rPath_pathB path x fun p hp => sNode_right (by have := List.all_eq_true.1 hw.2 p hp; exact this)
      · rename_i hp
        have := fits_no h5 (by simpa using hp)
        simp only [decide_eq_true_eq] at this
        rw [List.eq_nil_of_length_eq_zero this]; rfl
    have e5 : ∀ x, rdProp k ((if pProp k = true then numB prop.toNat ++ vB vk vn vt else []) ++ x, 0) = ((prop, vk, vn, vt), (x, 0)) := fun x => by
      unfold rdProp
      split
      · rename_i hp
        have hv := fits_yes h6 hp
        simp only [vright8, Bool.and_eq_true, decide_eq_true_eq] at hv
        have hpb : 0 ≤ prop ∧ prop ≤ 8 := by
          have := hv.1
          unfold kind8 at this
          repeat' split at this
          all_goals omega
        have e : rUpto 281474976710655 (numB prop.toNat ++ (vB vk vn vt ++ x), 0) = (prop, (vB vk vn vt ++ x, 0)) := by
          rw [rUpto_numB prop.toNat _ _ (by omega) (by omega), Int.toNat_of_nonneg (by omega)]
        rw [List.append_assoc, e]
        simp only [tVal_vB vk vn vt x hv.2.1]
      · rename_i hp
        have := fits_no h6 (by simpa using hp)
        simp only [Bool.and_eq_true, vzero, decide_eq_true_eq] at this
        obtain ⟨rfl, rfl, rfl, ht⟩ := this
        have : vt = ⟨#[]⟩ := by rw [← mkS_data vt, ht]; rfl
        subst this; rfl
    have e6 : rdOn k ((if pOn k = true then numB (if on = true then 1 else 0) else []) ++ u, 0) = (on, (u, 0)) := by
      unfold rdOn
      split
      · rcases on with _ | _
        · have e : rUpto 1 (numB 0 ++ u, 0) = (((0 : Nat) : Int), (u, 0)) := rUpto_numB _ _ _ (by omega) (by omega)
          simp only [Bool.false_eq_true, if_false, e]
          rfl
        · have e : rUpto 1 (numB 1 ++ u, 0) = (((1 : Nat) : Int), (u, 0)) := rUpto_numB _ _ _ (by omega) (by omega)
          simp only [if_true, e]
          rfl
      · rename_i hp
        rw [show pOn k = false by simpa using hp] at h7
        simp only [Bool.false_or, Bool.not_eq_true'] at h7
        subst h7; rfl
    unfold opRead
    simp only [e0, e1, e2, e3, e4, e5, e6, mkS_data]
  unfold tOp opLook
  rw [key]
  simp only [h, if_true]
/-- Two ops that may be have the same bytes just if they are the same. -/
theorem opB_inj {d d' : OpD} (h : oright d = true) (h' : oright d' = true) (e : opB d = opB d') : d = d' := by
  have e1 := tOp_opB d [] h
  have e2 := tOp_opB d' [] h'
  rw [e] at e1
  rw [e1] at e2
  exact (Prod.mk.inj e2).1
end Go.Proofs.YtnakanophilfhaaDoor
