/- A reckoner of Go code over told values: its steps. -/
import Derived.Test.YtfnjijnaogbgmaaSx1
namespace Go.Sx
open Go
set_option linter.unusedVariables false

mutual
theorem Kd.eq_of_same : (a b : Kd) → a.same b = true → a = b
  | .int j, b, h => by cases b <;> simp_all [Kd.same]
  | .bool, b, h => by cases b <;> simp_all [Kd.same]
  | .str, b, h => by cases b <;> simp_all [Kd.same]
  | .slice e, b, h => by
    cases b <;> simp_all [Kd.same]
    exact Kd.eq_of_same e _ h
  | .struct fs, b, h => by
    cases b <;> simp_all [Kd.same]
    exact Kds.eq_of_same fs _ h
theorem Kds.eq_of_same : (a b : List Kd) → Kds.same a b = true → a = b
  | [], b, h => by cases b <;> simp_all [Kds.same]
  | k :: ks, b, h => by
    cases b <;> simp_all [Kds.same]
    exact ⟨Kd.eq_of_same k _ h.1, Kds.eq_of_same ks _ h.2⟩
end
def castL (K e : Kd) (l : Unit → List K.T) : Option (Unit → List e.T) :=
  if h : K.same e = true then some (Kd.eq_of_same K e h ▸ l) else none

mutual
def Kd.dec : (K : Kd) → List AV → Option ((Unit → K.T) × List AV)
  | .int k, cs => (match cs with | .int k' n :: r => (if k = k' then some (fun _ => n.d, r) else none) | _ => none)
  | .bool, cs => (match cs with | .bool b :: r => some (fun _ => b.d, r) | _ => none)
  | .str, cs => (match cs with | .str s :: r => some (s, r) | _ => none)
  | .slice e, cs =>
    (match cs with
     | .ro K l :: r => (match castL K e l with | some l' => some (l', r) | none => none)
     | .nils :: r => some (fun _ => ([] : List e.T), r)
     | .e0 :: r => some (fun _ => ([] : List e.T), r)
     | _ => none)
  | .struct fs, cs => Kds.dec fs cs
def Kds.dec : (fs : List Kd) → List AV → Option ((Unit → Kds.T fs) × List AV)
  | [], cs => some (fun _ => (), cs)
  | k :: ks, cs =>
    match k.dec cs with
    | none => none
    | some (x, r) =>
      match Kds.dec ks r with
      | none => none
      | some (y, r') => some (fun _ => (x (), y ()), r')
end

mutual
/-- Equality, part by part. -/
def eqK : (K : Kd) → K.T → K.T → Bool
  | .int _, a, b => eqI a b
  | .bool, a, b => eqBo a b
  | .str, a, b => eqS a b
  | .slice _, _, _ => false
  | .struct fs, a, b => eqKs fs a b
def eqKs : (fs : List Kd) → Kds.T fs → Kds.T fs → Bool
  | [], _, _ => true
  | k :: ks, a, b => eqK k a.1 b.1 && eqKs ks a.2 b.2
end
def encArg (K : Kd) (x : Unit → K.T) : AV :=
  match K with
  | .int k => .int k (.t x)
  | .bool => .bool (.t x)
  | .str => .str x
  | .slice e => .ro e x
  | .struct fs => .agg (Kds.enc fs x)
def decArg (K : Kd) (x : AV) : Option (Unit → K.T) :=
  match K with
  | .struct fs => (match x with | .agg cs => (match Kds.dec fs cs with | some (y, []) => some y | _ => none) | _ => none)
  | K => (match K.dec [x] with | some (y, []) => some y | _ => none)
/-- A map's entries. -/
def lookD {α β : Type} (eq : α → α → Bool) (d : β) : List (α × β) → α → β
  | [], _ => d
  | kv :: l, k => if eq k kv.1 = true then kv.2 else lookD eq d l k
def hasD {α β : Type} (eq : α → α → Bool) : List (α × β) → α → Bool
  | [], _ => false
  | kv :: l, k => if eq k kv.1 = true then true else hasD eq l k
def putD {α β : Type} (eq : α → α → Bool) : List (α × β) → α → β → List (α × β)
  | [], k, v => [(k, v)]
  | kv :: l, k, v => if eq k kv.1 = true then (k, v) :: l else kv :: putD eq l k v
def idxD {α β : Type} (eq : α → α → Bool) : List (α × β) → α → Nat
  | [], _ => 0
  | kv :: l, k => if eq k kv.1 = true then 0 else idxD eq l k + 1
def setV {α β : Type} : List (α × β) → Nat → β → List (α × β)
  | [], _, _ => []
  | kv :: l, 0, v => (kv.1, v) :: l
  | kv :: l, n + 1, v => kv :: setV l n v
/-- A value that is no struct, no array, no tuple. -/
def AV.one : AV → Bool
  | .any => false
  | .und => false
  | .agg _ => false
  | .tup _ => false
  | .gd _ _ => false
  | _ => true
def ones : List AV → Bool
  | [] => true
  | x :: xs => x.one && ones xs

/-- What a known function tells of its arguments: its value, new rows (numbered from 0), and what must hold. -/
structure FOut where
  v : AV
  rows : List Blk
  obs : Obs
structure Env where
  row : TypeId → Option TRow
  fn : FuncId → Option (List AV → Option FOut)
  ext : FuncId → Option (List AV → Option (AV × Obs))
  lies : TypeId → Bool
  eqk : TypeId → Option Kd

/-- What a step tells: a value, the blocks that are written, what must hold, the blocks that are looked at. -/
structure Res where
  v : AV
  up : List (Nat × Blk)
  obs : Obs
  rd : List Nat

def bitsI (op : BinOp) (k : IntKind) (x y : Int) : Int :=
  match op with
  | .and => k.wrap (BitVec.ofInt k.bits x &&& BitVec.ofInt k.bits y).toNat
  | .or => k.wrap (BitVec.ofInt k.bits x ||| BitVec.ofInt k.bits y).toNat
  | .xor => k.wrap (BitVec.ofInt k.bits x ^^^ BitVec.ofInt k.bits y).toNat
  | _ => k.wrap (BitVec.ofInt k.bits x &&& ~~~ BitVec.ofInt k.bits y).toNat

def bin (op : BinOp) (k : IntKind) (a b : SI) : Option (AV × Obs) :=
  match op with
  | .add => some (.int k (SI.map2 (fun x y => k.wrap (x + y)) a b), [])
  | .sub => some (.int k (SI.map2 (fun x y => k.wrap (x - y)) a b), [])
  | .mul => some (.int k (SI.map2 (fun x y => k.wrap (x * y)) a b), [])
  | .quo => some (.int k (SI.map2 (fun x y => k.wrap (x.tdiv y)) a b), [fun _ => b.d ≠ 0])
  | .rem => some (.int k (SI.map2 (fun x y => x.tmod y) a b), [fun _ => b.d ≠ 0])
  | .and => some (.int k (SI.map2 (fun x y => bitsI .and k x y) a b), [])
  | .or => some (.int k (SI.map2 (fun x y => bitsI .or k x y) a b), [])
  | .xor => some (.int k (SI.map2 (fun x y => bitsI .xor k x y) a b), [])
  | .andNot => some (.int k (SI.map2 (fun x y => bitsI .andNot k x y) a b), [])
  | .eql => some (.bool (SI.cmp2 (fun x y => eqI x y) a b), [])
  | .neq => some (.bool (SI.cmp2 (fun x y => neI x y) a b), [])
  | .lss => some (.bool (SI.cmp2 (fun x y => ltI x y) a b), [])
  | .leq => some (.bool (SI.cmp2 (fun x y => leI x y) a b), [])
  | .gtr => some (.bool (SI.cmp2 (fun x y => ltI y x) a b), [])
  | .geq => some (.bool (SI.cmp2 (fun x y => leI y x) a b), [])
  | .shl => none
  | .shr => none
def shft (op : BinOp) (k : IntKind) (a b : SI) : Option (AV × Obs) :=
  match op with
  | .shl => some (.int k (SI.map2 (fun x y => k.wrap (x * 2 ^ (min y.toNat k.bits))) a b), [fun _ => 0 ≤ b.d])
  | .shr => some (.int k (SI.map2 (fun x y => x.fdiv (2 ^ (min y.toNat k.bits))) a b), [fun _ => 0 ≤ b.d])
  | _ => none

/-- Equality beyond integers. -/
def eqAV (E : Env) (d : TD) (x y : AV) : Option SB :=
  match d with
  | .bool => (match x with | .bool a => (match y with | .bool b => some (SB.map2 (fun a b => eqBo a b) a b) | _ => none) | _ => none)
  | .iface =>
    (match x with
     | .nili => (match y with | .iface _ _ => some (.l false) | _ => none)
     | .iface _ _ => (match y with | .nili => some (.l false) | _ => none)
     | _ => none)
  | .fn =>
    (match x with
     | .nilf => (match y with | .nilf => some (.l true) | .fn _ _ _ => some (.l false) | _ => none)
     | .fn _ _ _ => (match y with | .nilf => some (.l false) | _ => none)
     | _ => none)
  | .ptr e =>
    (match x with
     | .nilp => (match y with | .nilp => some (.l true) | .ptr _ _ => some (.l false) | _ => none)
     | .ptr i o =>
       (match y with
        | .nilp => some (.l false)
        | .ptr i' o' => (match E.row e with | some _ => if i = i' ∧ o = o' then some (.l true) else none | none => none)
        | _ => none)
     | _ => none)
  | _ => none
def binA (E : Env) (op : BinOp) (t : TypeId) (x y : AV) : Option (AV × Obs) :=
  match x with
  | .int k a =>
    (match y with
     | .int k' b => (match op with
        | .shl => shft .shl k a b
        | .shr => shft .shr k a b
        | op => if k = k' then bin op k a b else none)
     | _ => none)
  | .str a =>
    (match y with
     | .str b => (match op with
        | .eql => some (.bool (.t fun _ => eqS (a ()) (b ())), [])
        | .neq => some (.bool (.t fun _ => !(eqS (a ()) (b ()))), [])
        | .add => some (.str (fun _ => a () ++ b ()), [fun _ => nI ((a ()).size + (b ()).size) ≤ 9223372036854775807])
        | _ => none)
     | _ => none)
  | x =>
    match E.row t with
    | none => none
    | some r =>
      match op with
      | .eql => (match eqAV E r.d x y with | some b => some (.bool b, []) | none => none)
      | .neq => (match eqAV E r.d x y with | some b => some (.bool (SB.map (fun b => !b) b), []) | none => none)
      | _ => none

def unA (op : UnOp) (x : AV) : Option AV :=
  match op with
  | .neg => (match x with | .int k n => some (.int k (SI.map (fun n => k.wrap (0 - n)) n)) | _ => none)
  | .xor => (match x with | .int k n => some (.int k (SI.map (fun n => bitsI .xor k (if k.signed then -1 else k.max) n) n)) | _ => none)
  | .not => (match x with | .bool b => some (.bool (SB.map (fun b => !b) b)) | _ => none)
  | .plus => none

def Env.sz (E : Env) (t : TypeId) : Nat := match E.row t with | some r => r.size | none => 0
def szIs (E : Env) (t : TypeId) (n : Nat) : Bool :=
  match E.row t with
  | some r => r.size == n
  | none => false
def isAggD : TD → Bool
  | .arr _ _ => true
  | .st _ => true
  | _ => false
/-- A part of type t of cells. -/
def partA (E : Env) (t : TypeId) (cs : List AV) (off : Nat) : Option AV :=
  match E.row t with
  | none => none
  | some r =>
    match isAggD r.d with
    | true => (match cut cs off r.size with | some l => some (.agg l) | none => none)
    | false => (match nth cs off with | some v => some v | none => none)

def fieldA (E : Env) (t : TypeId) (x : AV) (f : Nat) : Option AV :=
  match E.row t with
  | some { d := .st fs, .. } =>
    (match nth fs f with
     | some (off, ft) => (match x with | .agg cs => partA E ft cs off | _ => none)
     | none => none)
  | _ => none
def fieldAddrA (E : Env) (t : TypeId) (x : AV) (f : Nat) : Option AV :=
  match E.row t with
  | some { d := .st fs, .. } =>
    (match nth fs f with
     | some (off, ft) =>
       (match E.sz ft with
        | 0 => none
        | _ + 1 =>
          (match x with
           | .ptr id o => some (.ptr id (o + off))
           | .rowp id i sz fld => some (.rowp id i sz (fld + off))
           | .rop K l i fld => some (.rop K l i (fld + off))
           | .fb cs o => some (.fb cs (o + off))
           | _ => none))
     | none => none)
  | _ => none
def inB (i : SI) (n : SN) : Unit → Prop := fun _ => 0 ≤ i.d ∧ i.d < nI n.d
def indexAddrA (E : Env) (t : TypeId) (x ix : AV) : Option (AV × Obs) :=
  match ix with
  | .int _ i =>
    (match E.row t with
     | some { d := .slice e, .. } =>
       (match x with
        | .sl id sz off len => if szIs E e sz = true then some (.rowp id (SN.add off i.toN) sz 0, [inB i len]) else none
        | .ro K l => if szIs E e K.size = true then some (.rop K l i.toN 0, [inB i (.t fun _ => (l ()).length)]) else none
        | _ => none)
     | some { d := .arr n e, .. } =>
       (match x with
        | .ptr id o => (match i with
          | .l j => (match decide (0 ≤ j ∧ j < (n : Int)) with
            | true => (match E.row e with | some re => some (.ptr id (o + j.toNat * re.size), []) | none => none)
            | false => none)
          | .t _ => none)
        | _ => none)
     | _ => none)
  | _ => none
def byteAt (s : ByteArray) (i : Int) : Int := ((s.data.getD i.toNat 0).toNat : Int)
def indexA (E : Env) (t : TypeId) (x ix : AV) : Option (AV × Obs) :=
  match ix with
  | .int _ i =>
    (match E.row t with
     | some { d := .str, .. } =>
       (match x with
        | .str s => some (.int .u8 (.t fun _ => byteAt (s ()) i.d), [inB i (.t fun _ => (s ()).size)])
        | _ => none)
     | some { d := .arr n e, .. } =>
       (match x with
        | .agg cs => (match i with
          | .l j => (match decide (0 ≤ j ∧ j < (n : Int)) with
            | true => (match E.row e with | some re => (match partA E e cs (j.toNat * re.size) with | some v => some (v, []) | none => none) | none => none)
            | false => none)
          | .t _ => none)
        | _ => none)
     | _ => none)
  | _ => none

/-- A bound of a slice expression, as it stands or as it is given. -/
def bnd (x : Option AV) (d : SN) : Option SI :=
  match x with
  | none => some d.toI
  | some (.int _ i) => some i
  | _ => none
def sliceA (E : Env) (t : TypeId) (x : AV) (lo hi mx : Option AV) : Option (AV × Obs) :=
  match E.row t with
  | some { d := .str, .. } =>
    (match x with
     | .str s =>
       (match mx with
        | none =>
          (match bnd lo (.l 0) with
           | some l => (match bnd hi (.t fun _ => (s ()).size) with
             | some h => some (.str (fun _ => (s ()).extract l.d.toNat h.d.toNat), [fun _ => 0 ≤ l.d ∧ l.d ≤ h.d ∧ h.d ≤ nI (s ()).size])
             | none => none)
           | none => none)
        | some _ => none)
     | _ => none)
  | some { d := .slice e, .. } =>
    if (E.row e).isSome = true then
    (match mx with
     | none =>
       (match x with
        | .ro K xs =>
          (match bnd lo (.l 0) with
           | some l => (match bnd hi (.t fun _ => (xs ()).length) with
             | some h => if szIs E e K.size = true then some (.ro K (fun _ => ((xs ()).take h.d.toNat).drop l.d.toNat), [fun _ => 0 ≤ l.d ∧ l.d ≤ h.d ∧ h.d ≤ nI (xs ()).length]) else none
             | none => none)
           | none => none)
        | .sl id sz off len =>
          (match bnd lo (.l 0) with
           | some l => (match bnd hi len with
             | some h => if szIs E e sz = true then some (.sl id sz (SN.add off l.toN) (SN.sub h.toN l.toN), [fun _ => 0 ≤ l.d ∧ l.d ≤ h.d ∧ h.d ≤ nI len.d]) else none
             | none => none)
           | none => none)
        | .nils => (match bnd lo (.l 0) with
           | some l => (match bnd hi (.l 0) with
             | some h => some (.nils, [fun _ => l.d = 0 ∧ h.d = 0])
             | none => none)
           | none => none)
        | _ => none)
     | some (.int _ (.l 0)) =>
       (match lo with
        | some (.int _ (.l 0)) => (match hi with
          | some (.int _ (.l 0)) => (match x with | .ro _ _ => some (.e0, []) | .sl _ _ _ _ => some (.e0, []) | .nils => some (.e0, []) | .e0 => some (.e0, []) | _ => none)
          | _ => none)
        | none => (match hi with
          | some (.int _ (.l 0)) => (match x with | .ro _ _ => some (.e0, []) | .sl _ _ _ _ => some (.e0, []) | .nils => some (.e0, []) | .e0 => some (.e0, []) | _ => none)
          | _ => none)
        | _ => none)
     | _ => none)
    else none
  | _ => none

/-- All fields' types are known. -/
def knows (E : Env) : List (Nat × TypeId) → Bool
  | [] => true
  | (_, t) :: fs => (E.row t).isSome && knows E fs
def buildA (E : Env) (t : TypeId) (parts : List (Nat × AV)) : Option (List AV) :=
  match E.row t with
  | some { d := .st fs, z := .agg z, .. } =>
    if knows E fs = true then
    parts.foldl (fun acc (i, x) => match acc with
      | none => none
      | some cs => match nth fs i with
        | some (off, ft) => if szIs E ft x.cells.length = true ∧ ones x.cells = true then splice cs off x.cells else none
        | none => none) (some (ofSs z.toList))
    else none
  | some { d := .arr _ e, z := .agg z, .. } =>
    if (E.row e).isSome = true then
    parts.foldl (fun acc (i, x) => match acc with
      | none => none
      | some cs => if szIs E e x.cells.length = true ∧ ones x.cells = true then splice cs (i * x.cells.length) x.cells else none) (some (ofSs z.toList))
    else none
  | _ => none

def lenA (d : TD) (x : AV) : Option SN :=
  match d with
  | .str => (match x with | .str s => some (.t fun _ => (s ()).size) | _ => none)
  | .slice _ =>
    (match x with
     | .ro _ l => some (.t fun _ => (l ()).length)
     | .sl _ _ _ len => some len
     | .nils => some (.l 0)
     | .e0 => some (.l 0)
     | _ => none)
  | .arr n _ => some (.l n)
  | _ => none
def minmax (mx : Bool) : AV → List AV → Option AV
  | x, [] => some x
  | .int k a, .int k' b :: r => if k = k' then minmax mx (.int k (SI.map2 (fun x y => if mx then (if y > x then y else x) else (if y < x then y else x)) a b)) r else none
  | _, _ => none

/-- A value behind a guard, and the guard. -/
def ungd (x : AV) : AV × Obs :=
  match x with
  | .gd g v => (v, [g])
  | x => (x, [])
def ungds (xs : List AV) : Obs :=
  match xs with
  | [] => []
  | .gd g _ :: xs => g :: ungds xs
  | _ :: xs => ungds xs

/-- Steps that look at no memory. -/
def pop (E : Env) (ρ : Operand → AV) (o : Op) : Option (AV × Obs) :=
  match o with
  | .move x => some (ρ x, [])
  | .assign x => some (ρ x, [])
  | .pick c a b =>
    (match ρ c with
     | .bool (.l true) => (match ungd (ρ a) with | (v, obs) => some (v, obs))
     | .bool (.l false) => (match ungd (ρ b) with | (v, obs) => some (v, obs))
     | .bool (.t f) =>
       (match ungd (ρ a) with
        | (.int k x, oa) => (match ungd (ρ b) with | (.int k' y, ob) => if k = k' then some (.int k (.t fun _ => if f () then x.d else y.d), [fun _ => (f () = true → allO oa) ∧ (f () = false → allO ob)]) else none | _ => none)
        | (.bool x, oa) => (match ungd (ρ b) with | (.bool y, ob) => some (.bool (.t fun _ => if f () then x.d else y.d), [fun _ => (f () = true → allO oa) ∧ (f () = false → allO ob)]) | _ => none)
        | _ => none)
     | _ => none)
  | .nilCheck x =>
    (match ρ x with
     | .ptr i f => some (.ptr i f, [])
     | .rowp i j s f => some (.rowp i j s f, [])
     | .rop K l i f => some (.rop K l i f, [])
     | .fb cs o => some (.fb cs o, [])
     | .fn (.func g) a b => some (.fn (.func g) a b, [])
     | .fn (.yield g) a b => some (.fn (.yield g) a b, [])
     | _ => none)
  | .binOp op t x y _ => binA E op t (ρ x) (ρ y)
  | .unOp op _ x => (match unA op (ρ x) with | some v => some (v, []) | none => none)
  | .convert src dst x =>
    (match E.row src with
     | none => none
     | some _ =>
       (match E.row dst with
        | some r =>
          (match r.d with
           | .int k => (match ρ x with | .int _ n => some (.int k (SI.map (fun n => k.wrap n) n), []) | _ => none)
           | .str => (match ρ x with | .str s => some (.str s, []) | _ => none)
           | _ => none)
        | none => none))
  | .makeInterface t x =>
    (match E.row t with
     | some r => (match r.d with | .iface => none | _ => some (.iface t (ρ x), []))
     | none => none)
  | .makeFunc f a b => some (.fn f (a.toList.map ρ) (b.toList.map ρ), [])
  | .fieldAddr t x f => (match fieldAddrA E t (ρ x) f with | some v => some (v, []) | none => none)
  | .field t x f => (match fieldA E t (ρ x) f with | some v => some (v, []) | none => none)
  | .indexAddr t x i => indexAddrA E t (ρ x) (ρ i)
  | .index t x i => indexA E t (ρ x) (ρ i)
  | .slice t x lo hi mx => sliceA E t (ρ x) (lo.map ρ) (hi.map ρ) (mx.map ρ)
  | .build t ps => (match buildA E t (ps.toList.map fun p => (p.1, ρ p.2)) with | some cs => some (.agg cs, []) | none => none)
  | .extract x i => (match ρ x with | .tup vs => (match nth vs i with | some v => some (v, []) | none => none) | _ => none)
  | .typeAssert x _ t ok =>
    (match ρ x with
     | .iface t' v =>
       (match E.row t with
        | some r => (match r.d with
          | .iface => none
          | _ => if t' = t then some (if ok then .tup [v, .bool (.l true)] else v, []) else if ok then some (.tup [ofV r.z, .bool (.l false)], []) else none)
        | none => none)
     | _ => none)
  | .call { callee := .builtin .len, args := as, argTypes := ts } =>
    (match as.toList with
     | [x] =>
       (match ts.toList with
        | [t] =>
          (match E.row t with
           | some r => (match lenA r.d (ρ x) with | some n => some (.int .i64 n.toI, []) | none => none)
           | none => none)
        | _ => none)
     | _ => none)
  | .call { callee := .builtin .min, args := as, .. } =>
    (match as.toList with
     | x :: xs => (match minmax false (ρ x) (xs.map ρ) with | some v => some (v, []) | none => none)
     | _ => none)
  | .call { callee := .builtin .max, args := as, .. } =>
    (match as.toList with
     | x :: xs => (match minmax true (ρ x) (xs.map ρ) with | some v => some (v, []) | none => none)
     | _ => none)
  | _ => none

/-- A slice of a row of one's own as what it reads. -/
def roOf (h : List Blk) (x : AV) : AV :=
  match x with
  | .sl id sz off len =>
    (match hget h id with
     | .row _ K l => if K.size = sz then .ro K (fun _ => ((l ()).drop off.d).take len.d) else .any
     | _ => .any)
  | x => x
def slObs (h : List Blk) (x : AV) : Obs :=
  match x with
  | .sl id _ off len => (match hget h id with | .row _ K l => [fun _ => off.d + len.d ≤ (l ()).length] | _ => [])
  | _ => []
def slOf (x : AV) : List Nat :=
  match x with
  | .sl id _ _ _ => [id]
  | _ => []
def slObss (h : List Blk) : List AV → Obs
  | [] => []
  | x :: xs => slObs h x ++ slObss h xs
def slsOf : List AV → List Nat
  | [] => []
  | x :: xs => slOf x ++ slsOf xs
def frz (h : List Blk) : List AV → List AV
  | [] => []
  | x :: xs => roOf h x :: frz h xs
def parts1 (x : AV) : List AV :=
  match x with
  | .agg cs => cs
  | x => [x]
def parts : List AV → List AV
  | [] => []
  | x :: xs => parts1 x ++ parts xs
def view (h : List Blk) (x : AV) : AV :=
  match x with
  | .agg cs => .agg (frz h cs)
  | x => roOf h x
def views (h : List Blk) : List AV → List AV
  | [] => []
  | x :: xs => view h x :: views h xs
/-- What a called function is handed: blocks of one's own are looked at alone. -/
def vB : Nat → List Blk → AV → AV
  | 0, _, _ => .any
  | n + 1, h, x =>
    match x with
    | .ptr id off => (match hget h id with | .box _ cs => .fb (cs.map (vB n h)) off | _ => .any)
    | .fn f a b => .fn f (a.map (vB n h)) (b.map (vB n h))
    | .agg cs => .agg (cs.map (vB n h))
    | x => roOf h x
def vI : Nat → List Blk → AV → List Nat
  | 0, _, _ => []
  | n + 1, h, x =>
    match x with
    | .ptr id _ => (match hget h id with | .box _ cs => id :: cs.flatMap (vI n h) | _ => [])
    | .fn _ a b => a.flatMap (vI n h) ++ b.flatMap (vI n h)
    | .agg cs => cs.flatMap (vI n h)
    | x => slOf x
def vO : Nat → List Blk → AV → Obs
  | 0, _, _ => []
  | n + 1, h, x =>
    match x with
    | .ptr id _ => (match hget h id with | .box _ cs => cs.flatMap (vO n h) | _ => [])
    | .fn _ a b => a.flatMap (vO n h) ++ b.flatMap (vO n h)
    | .agg cs => cs.flatMap (vO n h)
    | x => slObs h x
def kill : List Nat → List (Nat × Blk)
  | [] => []
  | i :: is => (i, .dead) :: kill is
def loadA (E : Env) (h : List Blk) (t : TypeId) (x : AV) : Option Res :=
  match x with
  | .ptr id off =>
    (match hget h id with
     | .box _ cs => (match partA E t cs off with | some v => some ⟨v, [], [], [id]⟩ | none => none)
     | _ => none)
  | .rowp id i sz fld =>
    (match hget h id with
     | .row _ K l => (match partA E t (K.enc fun _ => (l ()).getD i.d K.z) fld with | some v => if K.size = sz then some ⟨v, [], [fun _ => i.d < (l ()).length], [id]⟩ else none | none => none)
     | _ => none)
  | .rop K l i fld => (match partA E t (K.enc fun _ => (l ()).getD i.d K.z) fld with | some v => some ⟨v, [], [fun _ => i.d < (l ()).length], []⟩ | none => none)
  | .fb cs off => (match partA E t cs off with | some v => some ⟨v, [], [], []⟩ | none => none)
  | _ => none
def storeA (E : Env) (h : List Blk) (t : TypeId) (x v : AV) : Option Res :=
  if szIs E t v.cells.length = true ∧ ones v.cells = true then
    match x with
    | .ptr id off =>
      (match hget h id with
       | .box T cs => (match splice cs off v.cells with | some cs' => some ⟨.any, [(id, .box T cs')], [], []⟩ | none => none)
       | _ => none)
    | .rowp id i sz fld =>
      (match hget h id with
       | .row T K l =>
         if K.size = sz then
           (match splice (K.enc fun _ => (l ()).getD i.d K.z) fld (frz h v.cells) with
            | some cs => (match K.dec cs with
              | some (y, []) => if (slsOf v.cells).contains id then none else some ⟨.any, (id, .row T K fun _ => (l ()).set i.d (y ())) :: kill (slsOf v.cells), (fun _ => i.d < (l ()).length) :: slObss h v.cells, slsOf v.cells⟩
              | _ => none)
            | none => none)
         else none
       | _ => none)
    | _ => none
  else none

def decs (K : Kd) (n : Nat) (h : List Blk) (parts : List (Nat × AV)) : Option (List (Unit → K.T)) :=
  parts.foldl (fun acc p => match acc with
    | none => none
    | some l => match K.dec (frz h p.2.cells) with
      | some (y, []) => if p.1 < n then some (l.set p.1 y) else none
      | _ => none) (some (List.replicate n (fun _ => K.z)))
/-- n elements in cells. -/
def decN (K : Kd) : Nat → List AV → Option (Unit → List K.T)
  | 0, cs => (match cs with | [] => some (fun _ => []) | _ => none)
  | n + 1, cs =>
    (match K.dec cs with
     | some (x, r) => (match decN K n r with | some l => some (fun _ => x () :: l ()) | none => none)
     | none => none)
def partCells : List (Nat × AV) → List AV
  | [] => []
  | (_, x) :: ps => x.cells ++ partCells ps
def callsTo (b : AV) (as : List AV) : Option (FuncId × List AV) :=
  match b with
  | .fn (.func f) first cap => some (f, first ++ as ++ cap)
  | _ => none
def shiftV (n : Nat) (x : AV) : AV :=
  match x with
  | .sl id sz off len => .sl (n + id) sz off len
  | x => x
def shiftVs (n : Nat) : List AV → List AV
  | [] => []
  | x :: xs => shiftV n x :: shiftVs n xs
def shiftC (n : Nat) (x : AV) : AV :=
  match x with
  | .agg cs => .agg (shiftVs n cs)
  | x => shiftV n x
def shiftCs (n : Nat) : List AV → List AV
  | [] => []
  | x :: xs => shiftC n x :: shiftCs n xs
def shift (n : Nat) (x : AV) : AV :=
  match x with
  | .tup cs => .tup (shiftCs n cs)
  | x => shiftC n x
def number : Nat → List Blk → List (Nat × Blk)
  | _, [] => []
  | n, b :: bs => (n, b) :: number (n + 1) bs

def newsOf (K : Kd) (x : AV) : Option (Unit → List K.T) :=
  match x with
  | .ro K2 l => castL K2 K l
  | .nils => some fun _ => []
  | .e0 => some fun _ => []
  | _ => none
mutual
def Kd.flat : Kd → Bool
  | .slice _ => false
  | .struct fs => Kds.flat fs
  | _ => true
def Kds.flat : List Kd → Bool
  | [] => true
  | k :: ks => k.flat && Kds.flat ks
end
/-- A value that leads to no frozen memory. -/
def flatS (x : AV) : Bool :=
  match x with
  | .int _ _ => true
  | .bool _ => true
  | .str _ => true
  | .nilp => true
  | .nilf => true
  | .nili => true
  | .nilm => true
  | .nils => true
  | .e0 => true
  | .sl _ _ _ _ => true
  | _ => false
def flatC (x : AV) : Bool :=
  match x with
  | .agg cs => cs.all flatS
  | x => flatS x
def flatV (x : AV) : Bool :=
  match x with
  | .tup cs => cs.all flatC
  | x => flatC x
def flatB (b : Blk) : Bool :=
  match b with
  | .row _ K _ => K.flat
  | _ => false
/-- A value that names no block but rows. -/
def okS (x : AV) : Bool :=
  match x with
  | .ro _ _ => true
  | .any => true
  | x => flatS x
def okC (x : AV) : Bool :=
  match x with
  | .agg cs => cs.all okS
  | x => okS x
def okV (x : AV) : Bool :=
  match x with
  | .tup cs => cs.all okC
  | x => okC x
def rowB (b : Blk) : Bool :=
  match b with
  | .row _ _ _ => true
  | _ => false
/-- A value that names no block of one's own. -/
def plainS (x : AV) : Bool :=
  match x with
  | .int _ _ => true
  | .bool _ => true
  | .str _ => true
  | .nilp => true
  | .nilf => true
  | .nili => true
  | .nilm => true
  | .nils => true
  | .e0 => true
  | .ro _ _ => true
  | .rop _ _ _ _ => true
  | _ => false
mutual
def plainF (x : AV) : Bool :=
  match x with
  | .agg cs => plainFs cs
  | .fb cs _ => plainFs cs
  | .fn _ a b => plainFs a && plainFs b
  | x => plainS x
def plainFs (xs : List AV) : Bool :=
  match xs with
  | [] => true
  | x :: xs => plainF x && plainFs xs
end
def plainV (x : AV) : Bool :=
  match x with
  | .agg cs => cs.all plainS
  | x => plainS x
def flatOut (o : FOut) : Bool := flatV o.v && o.rows.all flatB

/-- Steps that look at memory. new: the first number that is free. -/
def mop1 (E : Env) (ρ : Operand → AV) (h : List Blk) (new : Nat) (o : Op) : Option Res :=
  match o with
  | .alloc t =>
    (match E.row t with
     | some r => some ⟨.ptr new 0, [(new, .box t (ofV r.z).cells)], [], []⟩
     | none => none)
  | .box t x => if ones (ρ x).cells = true then some ⟨.ptr new 0, [(new, .box t (ρ x).cells)], [], []⟩ else none
  | .load t x => loadA E h t (ρ x)
  | .store t x v => storeA E h t (ρ x) (ρ v)
  | .buildSlice t n ps =>
    (match E.row t with
     | some { d := .slice e, .. } =>
       (match E.row e with
        | some { kd := some K, .. } =>
          (match decs K n h (ps.toList.map fun p => (p.1, ρ p.2)) with
           | some ys =>
            if n * K.size ≤ 65536 ∧ ones (partCells (ps.toList.map fun p => (p.1, ρ p.2))) = true then
              some ⟨.sl new K.size (.l 0) (.l n), (new, .row e K (fun _ => ys.map fun y => y ())) :: kill (slsOf (partCells (ps.toList.map fun p => (p.1, ρ p.2)))),
                slObss h (partCells (ps.toList.map fun p => (p.1, ρ p.2))), slsOf (partCells (ps.toList.map fun p => (p.1, ρ p.2)))⟩
            else none
           | none => none)
        | _ => none)
     | _ => none)
  | .slice t x none none none =>
    (match E.row t with
     | some { d := .arr n e, .. } =>
       (match E.row e with
        | some { kd := some K, .. } =>
          (match ρ x with
           | .ptr id 0 =>
             (match hget h id with
              | .box T cs =>
                (match decN K n cs with
                 | some l => if n ≤ 65536 ∧ szIs E e K.size = true then some ⟨.sl new K.size (.l 0) (.l n), [(new, .row T K l), (id, .dead)], [], [id]⟩ else none
                 | none => none)
              | _ => none)
           | _ => none)
        | _ => none)
     | _ => none)
  | .makeSlice t l c =>
    (match E.row t with
     | some { d := .slice e, .. } =>
       (match E.row e with
        | some { kd := some K, bytes := bytes, .. } =>
          (match ρ l with
           | .int _ n => (match ρ c with
             | .int _ m => some ⟨.sl new K.size (.l 0) n.toN, [(new, .row e K (fun _ => List.replicate n.d.toNat K.z))], [fun _ => n.d = m.d ∧ 0 ≤ n.d ∧ n.d * bytes ≤ 140737488355328 ∧ n.d ≤ 9223372036854775807], []⟩
             | _ => none)
           | _ => none)
        | _ => none)
     | _ => none)
  | .call { callee := .builtin .append, args := as, argTypes := ts } =>
    (match as.toList with
     | [s, x] =>
       (match ts.toList with
        | [t, t'] =>
          if t = t' then
            (match E.row t with
             | some { d := .slice e, .. } =>
               (match E.row e with
                | some { kd := some K, bytes := bytes, .. } =>
                  (match newsOf K (roOf h (ρ x)) with
                   | some l2 =>
                     (match ρ s with
                      | .nils => some ⟨.sl new K.size (.l 0) (.t fun _ => (l2 ()).length), [(new, .row e K l2)], (fun _ => (l2 ()).length * bytes ≤ 140737488355328 ∧ (l2 ()).length ≤ maxLen) :: slObs h (ρ x), slOf (ρ x)⟩
                      | .e0 => some ⟨.sl new K.size (.l 0) (.t fun _ => (l2 ()).length), [(new, .row e K l2)], (fun _ => (l2 ()).length * bytes ≤ 140737488355328 ∧ (l2 ()).length ≤ maxLen) :: slObs h (ρ x), slOf (ρ x)⟩
                      | .sl id _ (.l 0) len =>
                        (match hget h id with
                         | .row T K1 l =>
                           if T = e then
                             (match castL K1 K l with
                              | some l1 => some ⟨.sl new K.size (.l 0) (.t fun _ => (l1 ()).length + (l2 ()).length), [(new, .row e K fun _ => l1 () ++ l2 ()), (id, .dead)], (fun _ => len.d = (l ()).length ∧ ((l1 ()).length + (l2 ()).length) * bytes ≤ 140737488355328 ∧ (l1 ()).length + (l2 ()).length ≤ maxLen) :: slObs h (ρ x), id :: slOf (ρ x)⟩
                              | none => none)
                           else none
                         | _ => none)
                      | _ => none)
                   | none => none)
                | _ => none)
             | _ => none)
          else none
        | _ => none)
     | _ => none)
  | .call { callee := .value f, args := as, .. } =>
    (match callsTo (ρ f) (as.toList.map ρ) with
     | some (g, xs) =>
       (match E.fn g with
        | some spec =>
          (match spec (xs.map (vB 6 h)) with
           | some out =>
             if plainFs (xs.map (vB 6 h)) = true ∧ (okV out.v || plainF out.v) = true ∧ out.rows.all rowB = true ∧ (flatOut out = true ∨ xs.flatMap (vI 6 h) = []) then some ⟨shift new out.v, number new out.rows, out.obs ++ xs.flatMap (vO 6 h), xs.flatMap (vI 6 h)⟩ else none
           | none => none)
        | none => none)
     | none => none)
  | _ => none

/-- The bytes of a row, where a string is appended: its element's type and its size. -/
def strRow (E : Env) (t t' : TypeId) : Option (TypeId × Nat) :=
  match E.row t' with
  | some { d := .str, .. } =>
    (match E.row t with
     | some { d := .slice e, .. } =>
       (match E.row e with
        | some { kd := some (.int .u8), bytes := bytes, .. } => some (e, bytes)
        | _ => none)
     | _ => none)
  | _ => none
def rowU8 (b : Blk) (e : TypeId) : Option (Unit → List Int) :=
  match b with
  | .row T (.int .u8) l => if T = e then some l else none
  | _ => none
/-- Further steps that look at memory. -/
def mop2 (E : Env) (ρ : Operand → AV) (h : List Blk) (new : Nat) (o : Op) : Option Res :=
  match o with
  | .convert src dst x =>
    (match E.row src with
     | some rs =>
       (match E.row dst with
        | some rd =>
          (match rs.d with
           | .ptr t =>
             (match rd.d with
              | .uptr =>
                (match ρ x with
                 | .ptr id 0 => (match hget h id with
                   | .box T cs => if T = t ∧ szIs E T cs.length = true then some ⟨.ptr id 0, [], [], [id]⟩ else none
                   | _ => none)
                 | _ => none)
              | _ => none)
           | .uptr =>
             (match rd.d with
              | .ptr t =>
                (match ρ x with
                 | .ptr id 0 => (match hget h id with
                   | .box T cs => if T = t ∧ szIs E T cs.length = true ∧ E.lies T = true then some ⟨.ptr id 0, [], [], [id]⟩ else none
                   | _ => none)
                 | _ => none)
              | _ => none)
           | _ => none)
        | none => none)
     | none => none)
  | .call { callee := .builtin .unsafeSliceData, args := as, .. } =>
    (match as.toList with
     | [x] => (match ρ x with | .sl id sz (.l 0) len => some ⟨.rowp id (.l 0) sz 0, [], [fun _ => 0 < len.d], []⟩ | _ => none)
     | _ => none)
  | .call { callee := .builtin .unsafeString, args := as, argTypes := ts } =>
    (match as.toList with
     | [p, n] =>
       (match ts.toList with
        | [t, _] =>
          (match E.row t with
           | some { d := .ptr e, .. } =>
             (match E.row e with
              | some { kd := some (.int .u8), .. } =>
                (match ρ p with
                 | .rowp id (.l 0) 1 0 =>
                   (match ρ n with
                    | .int .i64 m =>
                      (match rowU8 (hget h id) e with
                       | some l => some ⟨.str fun _ => bytesOf ((l ()).take m.d.toNat), [(id, .dead)], [fun _ => 0 < m.d ∧ m.d ≤ nI (l ()).length ∧ ∀ n ∈ l (), 0 ≤ n ∧ n < 256], []⟩
                       | none => none)
                    | _ => none)
                 | _ => none)
              | _ => none)
           | _ => none)
        | _ => none)
     | _ => none)
  | .call { callee := .builtin .append, args := as, argTypes := ts } =>
    (match as.toList with
     | [s, x] =>
       (match ts.toList with
        | [t, t'] =>
          (match strRow E t t' with
           | some (e, bytes) =>
             (match ρ x with
              | .str b =>
                (match ρ s with
                 | .nils => some ⟨.sl new 1 (.l 0) (.t fun _ => (bytesI (b ())).length), [(new, .row e (.int .u8) fun _ => bytesI (b ()))], [fun _ => (bytesI (b ())).length * bytes ≤ 140737488355328 ∧ (bytesI (b ())).length ≤ maxLen], []⟩
                 | .sl id _ (.l 0) len =>
                   (match rowU8 (hget h id) e with
                    | some l => some ⟨.sl new 1 (.l 0) (.t fun _ => (l ()).length + (bytesI (b ())).length), [(new, .row e (.int .u8) fun _ => l () ++ bytesI (b ())), (id, .dead)], [fun _ => len.d = (l ()).length ∧ ((l ()).length + (bytesI (b ())).length) * bytes ≤ 140737488355328 ∧ (l ()).length + (bytesI (b ())).length ≤ maxLen], [id]⟩
                    | none => none)
                 | _ => none)
              | _ => none)
           | none => none)
        | _ => none)
     | _ => none)
  | .call { callee := .value f, args := as, .. } =>
    (match callsTo (ρ f) (as.toList.map ρ) with
     | some (g, xs) =>
       (match E.ext g with
        | some spec => (match spec xs with | some (x, obs) => some ⟨x, [], obs, []⟩ | none => none)
        | none => none)
     | none => none)
  | .range t x =>
    (match E.row t with
     | some { d := .str, .. } => (match ρ x with | .str s => some ⟨.ptr new 0, [(new, .iter s fun _ => 0)], [], []⟩ | _ => none)
     | _ => none)
  | _ => none
/-- A map's block: its kinds and entries, if they are these. -/
def mapB (b : Blk) (t : TypeId) : Option ((K : Kd) × (V : Kd) × (Unit → List (K.T × V.T))) :=
  match b with
  | .map T K V l => if T = t then some ⟨K, V, l⟩ else none
  | _ => none
/-- A zero value is a struct's just if its kind is. -/
def zAgg (z : Value) (K : Kd) : Bool :=
  match z with
  | .agg _ => (match K with | .struct _ => true | _ => false)
  | _ => (match K with | .struct _ => false | _ => true)
/-- The kinds of a map's keys and values. -/
def mapKd (E : Env) (t : TypeId) : Option (Kd × Kd) :=
  match E.row t with
  | some { d := .map k v, .. } =>
    (match E.eqk k with
     | some K =>
       (match E.row v with
        | some { kd := some V, z := z, .. } => (match zAgg z V with | true => some (K, V) | false => none)
        | _ => none)
     | none => none)
  | _ => none
def decS (fs : List Kd) (x : AV) : Option (Unit → Kds.T fs) :=
  match x with
  | .agg cs => (match Kds.dec fs cs with | some (y, []) => some y | _ => none)
  | _ => none
/-- Structs compared, maps, cleared rows. -/
def mop3 (E : Env) (ρ : Operand → AV) (h : List Blk) (new : Nat) (o : Op) : Option Res :=
  match o with
  | .binOp op t x y _ =>
    (match E.eqk t with
     | some (.struct fs) =>
       (match decS fs (ρ x) with
        | some a =>
          (match decS fs (ρ y) with
           | some b =>
             (match op with
              | .eql => some ⟨.bool (.t fun _ => eqKs fs (a ()) (b ())), [], [], []⟩
              | .neq => some ⟨.bool (.t fun _ => !(eqKs fs (a ()) (b ()))), [], [], []⟩
              | _ => none)
           | none => none)
        | none => none)
     | _ => none)
  | .makeMap t none =>
    (match mapKd E t with
     | some (K, V) => some ⟨.mp new, [(new, .map t K V (fun _ => []))], [], []⟩
     | none => none)
  | .lookup t x ix ok =>
    (match mapKd E t with
     | some (K0, V0) =>
       (match ρ x with
        | .mp id =>
          (match mapB (hget h id) t with
           | some ⟨K, V, l⟩ =>
             if K.same K0 = true ∧ V.same V0 = true then
               (match decArg K (ρ ix) with
                | some k =>
                  (match ok with
                   | true => some ⟨.tup [encArg V (fun _ => lookD (eqK K) V.z (l ()) (k ())), .bool (.t fun _ => hasD (eqK K) (l ()) (k ()))], [], [], []⟩
                   | false => some ⟨encArg V (fun _ => lookD (eqK K) V.z (l ()) (k ())), [], [], []⟩)
                | none => none)
             else none
           | none => none)
        | _ => none)
     | none => none)
  | .mapUpdate t m ix x =>
    (match mapKd E t with
     | some (K0, V0) =>
       (match ρ m with
        | .mp id =>
          (match mapB (hget h id) t with
           | some ⟨K, V, l⟩ =>
             if K.same K0 = true ∧ V.same V0 = true ∧ K.flat = true ∧ V.flat = true then
               (match decArg K (ρ ix) with
                | some k =>
                  (match decArg V (ρ x) with
                   | some v => some ⟨.any, [(id, .map t K V (fun _ => putD (eqK K) (l ()) (k ()) (v ())))], [], []⟩
                   | none => none)
                | none => none)
             else none
           | none => none)
        | _ => none)
     | none => none)
  | .mapEntry t m ix =>
    (match mapKd E t with
     | some (K0, V0) =>
       (match ρ m with
        | .mp id =>
          (match mapB (hget h id) t with
           | some ⟨K, V, l⟩ =>
             if K.same K0 = true ∧ V.same V0 = true ∧ K.flat = true ∧ V.flat = true then
               (match decArg K (ρ ix) with
                | some k => some ⟨.tup [encArg V (fun _ => lookD (eqK K) V.z (l ()) (k ())), .int .i64 (.t fun _ => nI (idxD (eqK K) (l ()) (k ())))],
                    [(id, .map t K V (fun _ => putD (eqK K) (l ()) (k ()) (lookD (eqK K) V.z (l ()) (k ()))))], [], []⟩
                | none => none)
             else none
           | none => none)
        | _ => none)
     | none => none)
  | .entryStore t m s x =>
    (match mapKd E t with
     | some (K0, V0) =>
       (match ρ m with
        | .mp id =>
          (match mapB (hget h id) t with
           | some ⟨K, V, l⟩ =>
             if K.same K0 = true ∧ V.same V0 = true ∧ K.flat = true ∧ V.flat = true then
               (match ρ s with
                | .int _ n =>
                  (match decArg V (ρ x) with
                   | some v => some ⟨.any, [(id, .map t K V (fun _ => setV (l ()) n.d.toNat (v ())))], [fun _ => 0 ≤ n.d ∧ n.d < nI (l ()).length], []⟩
                   | none => none)
                | _ => none)
             else none
           | none => none)
        | _ => none)
     | none => none)
  | .call { callee := .builtin .clear, args := as, argTypes := ts } =>
    (match as.toList with
     | [x] =>
       (match ts.toList with
        | [t] =>
          (match E.row t with
           | some { d := .slice e, .. } =>
             (match ρ x with
              | .sl id sz off len =>
                (match hget h id with
                 | .row T K l =>
                   if T = e ∧ K.size = sz ∧ szIs E e sz = true ∧ (match E.row e with | some r => (match r.kd with | some K' => K.same K' | none => false) | none => false) = true then
                     some ⟨.tup [], [(id, .row T K fun _ => (l ()).take off.d ++ List.replicate len.d K.z ++ (l ()).drop (off.d + len.d))], [fun _ => off.d + len.d ≤ (l ()).length], []⟩
                   else none
                 | _ => none)
              | _ => none)
           | _ => none)
        | _ => none)
     | _ => none)
  | _ => none
def mop (E : Env) (ρ : Operand → AV) (h : List Blk) (new : Nat) (o : Op) : Option Res :=
  match mop1 E ρ h new o with
  | some r => some r
  | none => (match mop2 E ρ h new o with | some r => some r | none => mop3 E ρ h new o)

/-- A new row that is read alone from the start. -/
def mayB (E : Env) (ρ : Operand → AV) (new : Nat) (o : Op) : Option Res :=
  match o with
  | .buildSlice t n ps =>
    (match mop1 E ρ [] new (.buildSlice t n ps) with
     | some ⟨.sl _ _ _ _, [(_, .row _ K l)], obs, _⟩ => some ⟨.ro K l, [(new, .dead)], obs, [0]⟩
     | _ => none)
  | _ => none

def ev (fr : List AV) : Operand → AV
  | .tmp t => get fr t
  | .const v => ofV v
  | .global _ => .any
  | .func f => .fn (.func f) [] []

def step1 (E : Env) (ρ : Operand → AV) (h : List Blk) (new : Nat) (o : Oper) : Option Res :=
  match pop E ρ o.op with
  | some (v, obs) => some ⟨v, [], obs, []⟩
  | none =>
    match mop E ρ h new o.op with
    | some r => some ⟨r.v, r.up, r.obs, [0]⟩
    | none => none

def putO (fr : List AV) (d : Option Nat) (v : AV) : List AV :=
  match d with
  | some d => put fr d v
  | none => fr

inductive It where
  | code (c : Code)
  | blk (id : Nat)
  | lp (c : Code)
  | lq (c : Code)
  | ops (R : List Oper) (rest : List Oper)
  | beg (l : Nat)

structure Cfg where
  fr : List AV
  h : List Blk
  k : List It

def exitK (id : Nat) : List It → Option (List It)
  | .blk j :: k => if j = id then some k else exitK id k
  | _ :: k => exitK id k
  | [] => none

/-- Is an operation wanted? -/
inductive Wn where
  | yes | no | may (g : Unit → Prop) | lost
def wantB (want : Bool) : SB → Wn
  | .l b => (match b == want with | true => .yes | false => .no)
  | .t f => .may fun _ => f () = want
def wantG (g : Unit → Prop) : Wn → Wn
  | .yes => .may g
  | .no => .no
  | .may p => .may fun _ => g () ∧ p ()
  | .lost => .lost
def asB : AV → Option SB
  | .bool b => some b
  | _ => none
def wantV (want : Bool) : AV → Wn
  | .bool b => wantB want b
  | .und => .no
  | .gd g v => (match asB v with | some b => wantG g (wantB want b) | none => .lost)
  | _ => .lost
def wantedA (R : List Oper) (fr : List AV) (o : Oper) : Wn :=
  match o.guard with
  | none => .yes
  | some (j, want) =>
    match nth R j with
    | some { dst := some d, .. } => wantV want (get fr d)
    | _ => .lost
def gdObs (g : Unit → Prop) : Obs → Obs
  | [] => []
  | o :: os => (fun _ => g () → o ()) :: gdObs g os
/-- Operands without their guards. -/
def strips (fr : List AV) : List Operand → List AV × Obs
  | [] => (fr, [])
  | .tmp t :: ys =>
    (match get fr t with
     | .gd g v => (match strips (put fr t v) ys with | (fr', os) => (fr', g :: os))
     | _ => strips fr ys)
  | _ :: ys => strips fr ys

/-- The operands whose guards are told by the step itself are left out. -/
def oprs (o : Op) : List Operand :=
  match o with
  | .pick c _ _ => [c]
  | o => o.operands.toList

/-- Regions that draw their order: run as they are written. -/
def tmpsOf : List Operand → List Nat
  | [] => []
  | .tmp t :: ys => t :: tmpsOf ys
  | _ :: ys => tmpsOf ys
def looks (R : List Oper) (o : Oper) : List Nat :=
  match o.guard with
  | none => tmpsOf o.op.operands.toList
  | some (j, _) =>
    match nth R j with
    | some { dst := some d, .. } => d :: tmpsOf o.op.operands.toList
    | _ => tmpsOf o.op.operands.toList
def memN : List Nat → Nat → Bool
  | [], _ => false
  | a :: as, n => if a = n then true else memN as n
def keep (ts : List Nat) : Nat → List AV → List AV
  | _, [] => []
  | n, x :: fr => (match memN ts n with | true => x | false => .any) :: keep ts (n + 1) fr
structure DR where
  v : AV
  up : List (Nat × Blk)
  rd : List Nat
  lt : Option (List Nat)
/-- A value that leads to no block of one's own. -/
def noRef : Nat → AV → Bool
  | 0, _ => false
  | n + 1, x =>
    match x with
    | .ptr _ _ => false
    | .sl _ _ _ _ => false
    | .fn _ a b => a.all (noRef n) && b.all (noRef n)
    | .agg cs => cs.all (noRef n)
    | _ => true
def allRef (n : Nat) : List AV → Bool
  | [] => true
  | x :: xs => (match noRef n x with | true => allRef n xs | false => false)
def liteCall (ρ : Operand → AV) (c : Call) : Option (List Nat) :=
  match c.callee with
  | .value f =>
    (match callsTo (ρ f) (c.args.toList.map ρ) with
     | some (_, xs) => (match allRef 6 xs with | true => some [] | false => none)
     | none => none)
  | .builtin .append => (match c.args.toList with | [s, x] => some (slOf (ρ s) ++ slOf (ρ x)) | _ => none)
  | _ => none
/-- The blocks that a step looks at; none: it may look at any. -/
def liteOf (ρ : Operand → AV) (o : Op) : Option (List Nat) :=
  match o with
  | .load _ x => (match ρ x with | .ptr id _ => some [id] | .rowp id _ _ _ => some [id] | .rop _ _ _ _ => some [] | .fb _ _ => some [] | _ => none)
  | .alloc _ => some []
  | .box _ _ => some []
  | .makeSlice _ _ _ => some []
  | .buildSlice _ _ ps => (match slsOf (partCells (ps.toList.map fun p => (p.1, ρ p.2))) with | [] => some [] | _ :: _ => none)
  | .store _ x _ => (match ρ x with | .ptr id _ => some [id] | _ => none)
  | .call c => liteCall ρ c
  | _ => none
/-- Is what an operation gives handed to a call? -/
def takes (d : Nat) (o : Oper) : Bool :=
  match o.op with
  | .call { callee := .value _, args := as, .. } => memN (tmpsOf as.toList) d
  | _ => false
def anyTakes (d : Nat) : List Oper → Bool
  | [] => false
  | o :: os => (match takes d o with | true => true | false => anyTakes d os)
def handed (R : List Oper) (o : Oper) : Bool :=
  match o.op with
  | .buildSlice _ _ _ => (match o.dst with | some d => anyTakes d R | none => false)
  | _ => false
def stepD (E : Env) (R : List Oper) (ρ : Operand → AV) (h : List Blk) (o : Oper) : Option Res :=
  match handed R o with
  | true => (match mayB E ρ h.length o.op with | some r => some r | none => step1 E ρ h h.length o)
  | false => step1 E ρ h h.length o
def stepM (E : Env) (ρ : Operand → AV) (h : List Blk) (o : Oper) : Option Res :=
  match step1 E ρ h h.length o with
  | some ⟨v, [], obs, rd⟩ => some ⟨v, [], obs, rd⟩
  | _ => mayB E ρ h.length o.op
def dstepK (E : Env) (R : List Oper) (fr : List AV) (h : List Blk) (o : Oper) : Option (DR × Obs) :=
  match wantedA R (keep (looks R o) 0 fr) o with
  | .yes =>
    (match strips (keep (looks R o) 0 fr) (oprs o.op) with
     | (fr', gs) =>
       (match stepD E R (ev fr') h o with
        | some r => some (⟨r.v, r.up, r.rd, liteOf (ev fr') o.op⟩, gs ++ r.obs)
        | none => none))
  | .no => some (⟨.und, [], [], none⟩, [])
  | .may g =>
    (match strips (keep (looks R o) 0 fr) (oprs o.op) with
     | (fr', gs) =>
       (match stepM E (ev fr') h o with
        | some r => some (⟨.gd g r.v, r.up, r.rd, liteOf (ev fr') o.op⟩, gdObs g (gs ++ r.obs))
        | none => none))
  | .lost => none
def drunK (E : Env) (R : List Oper) : List Oper → List AV → List Blk → Option (List DR × Obs × List AV × List Blk)
  | [], fr, h => some ([], [], fr, h)
  | o :: os, fr, h =>
    match dstepK E R fr h o with
    | some (d, ob) =>
      (match drunK E R os (putO fr o.dst d.v) (hsets h d.up) with
       | some (ds, obs, fr', h') => some (d :: ds, ob ++ obs, fr', h')
       | none => none)
    | none => none
/-! Steps of such a region, without frames that are made anew. -/
def evK (ts : List Nat) (fr : List AV) : Operand → AV
  | .tmp t => (match memN ts t with | true => get fr t | false => .any)
  | y => ev fr y
def dstep (E : Env) (R : List Oper) (fr : List AV) (h : List Blk) (o : Oper) : Option (DR × Obs) :=
  match wantedA R fr o with
  | .yes =>
    (match strips fr (oprs o.op) with
     | (fr', gs) =>
       (match stepD E R (evK (looks R o) fr') h o with
        | some r => some (⟨r.v, r.up, r.rd, liteOf (evK (looks R o) fr') o.op⟩, gs ++ r.obs)
        | none => none))
  | .no => some (⟨.und, [], [], none⟩, [])
  | .may g =>
    (match strips fr (oprs o.op) with
     | (fr', gs) =>
       (match stepM E (evK (looks R o) fr') h o with
        | some r => some (⟨.gd g r.v, r.up, r.rd, liteOf (evK (looks R o) fr') o.op⟩, gdObs g (gs ++ r.obs))
        | none => none))
  | .lost => none
def drun (E : Env) (R : List Oper) : List Oper → List AV → List Blk → Option (List DR × Obs × List AV × List Blk)
  | [], fr, h => some ([], [], fr, h)
  | o :: os, fr, h =>
    match dstep E R fr h o with
    | some (d, ob) =>
      (match drun E R os (putO fr o.dst d.v) (hsets h d.up) with
       | some (ds, obs, fr', h') => some (d :: ds, ob ++ obs, fr', h')
       | none => none)
    | none => none
def isNil {α : Type} : List α → Bool
  | [] => true
  | _ => false
/-- Does it write; does it look at memory? -/
structure FL where
  w : Bool
  l : Bool
  ups : List Nat
  lt : Option (List Nat)
def isSo {α : Type} : Option α → Bool
  | some _ => true
  | none => false
def fstN : List (Nat × Blk) → List Nat
  | [] => []
  | u :: us => u.1 :: fstN us
def fl (d : DR) : FL := ⟨!isNil d.up, !isNil d.up || !isNil d.rd || isSo d.lt, fstN d.up, d.lt⟩
def flags : List DR → List FL
  | [] => []
  | d :: ds => fl d :: flags ds
def preds (o : Oper) : List Nat := (o.after.toList.filter fun e => Region.binds .any e).map (·.on)
def maskOf (acc : List Nat) : List Nat → Nat
  | [] => 0
  | p :: ps => 2 ^ p ||| (acc.getD p 0 ||| maskOf acc ps)
def masks : List Oper → List Nat → List Nat
  | [], acc => acc
  | o :: os, acc => masks os (acc ++ [maskOf acc (preds o)])
def sameD (a b : Option Nat) : Bool :=
  match a with
  | some x => (match b with | some y => x == y | none => false)
  | none => false
def inD (a : Option Nat) (l : List Nat) : Bool :=
  match a with
  | some x => memN l x
  | none => false
def meetN : List Nat → List Nat → Bool
  | [], _ => false
  | a :: as, l => memN l a || meetN as l
/-- One writes where the other one looks. -/
def meets (a b : FL) : Bool := a.w && b.l && (match b.lt with | some l => meetN l a.ups || meetN b.ups a.ups | none => true)
/-- May two operations not be exchanged? -/
def clash (R : List Oper) (o o' : Oper) (f f' : FL) : Bool :=
  sameD o.dst o'.dst || inD o.dst (looks R o') || inD o'.dst (looks R o) || meets f f' || meets f' f
/-- An operation, as far as its order matters: the slot that it fills and those that it looks at as bits. -/
structure LO where
  d : Nat
  lk : Nat
  f : FL
def bitO (a : Option Nat) : Nat :=
  match a with
  | some x => 2 ^ x
  | none => 0
def bitL : List Nat → Nat
  | [] => 0
  | a :: as => 2 ^ a ||| bitL as
def lo (R : List Oper) (o : Oper) (f : FL) : LO := ⟨bitO o.dst, bitL (looks R o), f⟩
def los (R : List Oper) : List Oper → List FL → List LO
  | o :: os, f :: fs => lo R o f :: los R os fs
  | _, _ => []
def clashL (a b : LO) : Bool :=
  match (a.d &&& (b.d ||| b.lk)) ||| (b.d &&& a.lk) with
  | 0 => (match a.f.w with | true => meets a.f b.f || meets b.f a.f | false => (match b.f.w with | true => meets b.f a.f | false => false))
  | _ + 1 => true
def dokIn (b : LO) (m : Nat) : Nat → List LO → Bool
  | _, [] => true
  | i, a :: r => (match clashL a b with | false => dokIn b m (i + 1) r | true => (match m.testBit i with | true => dokIn b m (i + 1) r | false => false))
def dokAll : List LO → List LO → List Nat → Bool
  | _, [], _ => true
  | _, _ :: _, [] => false
  | done, b :: r, m :: ms => (match dokIn b m 0 done with | true => dokAll (done ++ [b]) r ms | false => false)
def predsOk : Nat → List Oper → Bool
  | _, [] => true
  | j, o :: os => (preds o).all (fun p => decide (p < j)) && predsOk (j + 1) os
def distinctD : List Oper → Bool
  | [] => true
  | o :: os => os.all (fun o' => !sameD o.dst o'.dst) && distinctD os
def dok (R : List Oper) (ff : List FL) : Bool := distinctD R && (predsOk 0 R && dokAll [] (los R R ff) (masks R []))

/-- One step of the code; none: it stands. -/
def step (E : Env) (c : Cfg) : Option (Cfg × Obs) :=
  match c.k with
  | [] => none
  | .blk _ :: k => some (⟨c.fr, c.h, k⟩, [])
  | .lp b :: k => some (⟨c.fr, c.h, .code b :: .lp b :: k⟩, [])
  | .ops _ [] :: k => some (⟨c.fr, c.h, k⟩, [])
  | .ops R (o :: rest) :: k =>
    (match wantedA R c.fr o with
     | .yes =>
       (match strips c.fr (oprs o.op) with
        | (fr', gs) =>
          (match stepD E R (ev fr') c.h o with
           | some r => some (⟨putO c.fr o.dst r.v, hsets c.h r.up, .ops R rest :: k⟩, gs ++ r.obs)
           | none => none))
     | .no => some (⟨putO c.fr o.dst .und, c.h, .ops R rest :: k⟩, [])
     | .may g =>
       (match strips c.fr (oprs o.op) with
        | (fr', gs) =>
          (match stepM E (ev fr') c.h o with
           | some r => some (⟨putO c.fr o.dst (.gd g r.v), hsets c.h r.up, .ops R rest :: k⟩, gdObs g (gs ++ r.obs))
           | none => none))
     | .lost => none)
  | .code .skip :: k => some (⟨c.fr, c.h, k⟩, [])
  | .code (.label _) :: k => some (⟨c.fr, c.h, k⟩, [])
  | .code (.seq a b) :: k => some (⟨c.fr, c.h, .code a :: .code b :: k⟩, [])
  | .code (.block id b) :: k => some (⟨c.fr, c.h, .code b :: .blk id :: k⟩, [])
  | .code (.exit id) :: k => (match exitK id k with | some k' => some (⟨c.fr, c.h, k'⟩, []) | none => none)
  | .code (.cond x a b) :: k =>
    (match ev c.fr x with
     | .bool (.l true) => some (⟨c.fr, c.h, .code a :: k⟩, [])
     | .bool (.l false) => some (⟨c.fr, c.h, .code b :: k⟩, [])
     | _ => none)
  | .code (.region _ ops false) :: k => some (⟨c.fr, c.h, .ops ops.toList ops.toList :: k⟩, [])
  | .code (.region _ ops true) :: k =>
    (match drun E ops.toList ops.toList c.fr c.h with
     | some (ds, obs, fr', h') => (match dok ops.toList (flags ds) with | true => some (⟨fr', h', k⟩, obs) | false => none)
     | none => none)
  | _ => none

/-- Up to n steps, with what must hold. -/
def run (E : Env) : Nat → Cfg → Obs → Cfg × Obs
  | 0, c, obs => (c, obs)
  | n + 1, c, obs =>
    match step E c with
    | some (c', o) => run E n c' (o ++ obs)
    | none => (c, obs)

end Go.Sx
