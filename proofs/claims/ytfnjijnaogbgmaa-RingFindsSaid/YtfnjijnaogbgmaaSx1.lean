/- Words of a reckoner of Go code over told values: what it reckons with. -/
import Derived.WalkKit
import Derived.Orders
import Derived.Laws.AppendOwn
namespace Go.Sx
open Go

/-- An integer that is known, or told. -/
inductive SI where
  | l (n : Int)
  | t (f : Unit → Int)
def SI.d : SI → Int
  | .l n => n
  | .t f => f ()
inductive SB where
  | l (b : Bool)
  | t (f : Unit → Bool)
def SB.d : SB → Bool
  | .l b => b
  | .t f => f ()
inductive SN where
  | l (n : Nat)
  | t (f : Unit → Nat)
def SN.d : SN → Nat
  | .l n => n
  | .t f => f ()

def nI (n : Nat) : Int := n
@[simp] theorem nI_eq (n : Nat) : nI n = (n : Int) := rfl
def eqI (x y : Int) : Bool := x == y
def neI (x y : Int) : Bool := x != y
def ltI (x y : Int) : Bool := decide (x < y)
def leI (x y : Int) : Bool := decide (x ≤ y)
def eqBo (x y : Bool) : Bool := x == y
def eqS (x y : ByteArray) : Bool := x.toList == y.toList

def SI.map (f : Int → Int) (a : SI) : SI :=
  match a with
  | .l x => .l (f x)
  | .t g => .t fun _ => f (g ())
def SI.map2 (f : Int → Int → Int) (a b : SI) : SI :=
  match a with
  | .l x => (match b with | .l y => .l (f x y) | .t g => .t fun _ => f x (g ()))
  | .t h => (match b with | .l y => .t fun _ => f (h ()) y | .t g => .t fun _ => f (h ()) (g ()))
def SI.cmp2 (f : Int → Int → Bool) (a b : SI) : SB :=
  match a with
  | .l x => (match b with | .l y => .l (f x y) | .t g => .t fun _ => f x (g ()))
  | .t h => (match b with | .l y => .t fun _ => f (h ()) y | .t g => .t fun _ => f (h ()) (g ()))
def SB.map (f : Bool → Bool) (a : SB) : SB :=
  match a with
  | .l x => .l (f x)
  | .t g => .t fun _ => f (g ())
def SB.map2 (f : Bool → Bool → Bool) (a b : SB) : SB :=
  match a with
  | .l x => (match b with | .l y => .l (f x y) | .t g => .t fun _ => f x (g ()))
  | .t h => (match b with | .l y => .t fun _ => f (h ()) y | .t g => .t fun _ => f (h ()) (g ()))
def SN.add (a b : SN) : SN :=
  match a with
  | .l 0 => b
  | .l (x + 1) => (match b with | .l y => .l (x + 1 + y) | .t g => .t fun _ => x + 1 + g ())
  | .t h => (match b with | .l 0 => .t h | .l (y + 1) => .t fun _ => h () + (y + 1) | .t g => .t fun _ => h () + g ())
def SI.toN (a : SI) : SN :=
  match a with
  | .l x => .l x.toNat
  | .t g => .t fun _ => (g ()).toNat
def SN.toI (a : SN) : SI :=
  match a with
  | .l x => .l x
  | .t g => .t fun _ => nI (g ())
def SN.sub (a b : SN) : SN :=
  match a with
  | .l x => (match b with | .l y => .l (x - y) | .t g => .t fun _ => x - g ())
  | .t h => (match b with | .l 0 => .t h | .l (y + 1) => .t fun _ => h () - (y + 1) | .t g => .t fun _ => h () - g ())

/-- The kinds of elements of rows. -/
inductive Kd where
  | int (k : IntKind)
  | bool
  | str
  | slice (e : Kd)
  | struct (fs : List Kd)

mutual
@[reducible] def Kd.T : Kd → Type
  | .int _ => Int
  | .bool => Bool
  | .str => ByteArray
  | .slice e => List e.T
  | .struct fs => Kds.T fs
@[reducible] def Kds.T : List Kd → Type
  | [] => Unit
  | k :: ks => k.T × Kds.T ks
end
mutual
def Kd.z : (k : Kd) → k.T
  | .int _ => (0 : Int)
  | .bool => false
  | .str => ByteArray.empty
  | .slice _ => []
  | .struct fs => Kds.z fs
def Kds.z : (ks : List Kd) → Kds.T ks
  | [] => ()
  | k :: ks => (k.z, Kds.z ks)
end
mutual
def Kd.size : Kd → Nat
  | .int _ => 1
  | .bool => 1
  | .str => 1
  | .slice _ => 1
  | .struct fs => Kds.size fs
def Kds.size : List Kd → Nat
  | [] => 0
  | k :: ks => k.size + Kds.size ks
end
mutual
def Kd.same : Kd → Kd → Bool
  | .int j, .int k => j == k
  | .bool, .bool => true
  | .str, .str => true
  | .slice a, .slice b => a.same b
  | .struct a, .struct b => Kds.same a b
  | _, _ => false
def Kds.same : List Kd → List Kd → Bool
  | [], [] => true
  | a :: as, b :: bs => a.same b && Kds.same as bs
  | _, _ => false
end

/-- A value as the reckoner knows it. -/
inductive AV where
  | any
  | und
  | int (k : IntKind) (n : SI)
  | bool (b : SB)
  | str (s : Unit → ByteArray)
  | nilp | nilf | nili | nilm | nils | e0
  | ptr (id off : Nat)
  | rowp (id : Nat) (i : SN) (sz fld : Nat)
  | rop (K : Kd) (l : Unit → List K.T) (i : SN) (fld : Nat)
  | fb (cs : List AV) (off : Nat)
  | sl (id sz : Nat) (off len : SN)
  | mp (id : Nat)
  | ro (K : Kd) (l : Unit → List K.T)
  | agg (cs : List AV)
  | tup (vs : List AV)
  | fn (f : Fn) (a b : List AV)
  | iface (t : TypeId) (v : AV)
  | gd (g : Unit → Prop) (v : AV)

/-- A block of memory of its own. -/
inductive Blk where
  | dead
  | box (T : TypeId) (cs : List AV)
  | row (T : TypeId) (K : Kd) (l : Unit → List K.T)
  | iter (s : Unit → ByteArray) (p : Unit → Nat)
  | map (T : TypeId) (K V : Kd) (l : Unit → List (K.T × V.T))
  | obj (o : Unit → Obj)

abbrev Obs := List (Unit → Prop)
def allO : Obs → Prop
  | [] => True
  | o :: os => o () ∧ allO os

def nth {α : Type} : List α → Nat → Option α
  | [], _ => none
  | a :: _, 0 => some a
  | _ :: as, n + 1 => nth as n
def get : List AV → Nat → AV
  | [], _ => .any
  | a :: _, 0 => a
  | _ :: as, n + 1 => get as n
def put : List AV → Nat → AV → List AV
  | [], _, _ => []
  | _ :: as, 0, v => v :: as
  | a :: as, n + 1, v => a :: put as n v
def hget : List Blk → Nat → Blk
  | [], _ => .dead
  | a :: _, 0 => a
  | _ :: as, n + 1 => hget as n
def hset : List Blk → Nat → Blk → List Blk
  | [], 0, b => [b]
  | [], n + 1, b => .dead :: hset [] n b
  | _ :: as, 0, b => b :: as
  | a :: as, n + 1, b => a :: hset as n b
def hsets : List Blk → List (Nat × Blk) → List Blk
  | h, [] => h
  | h, (n, b) :: us => hsets (hset h n b) us
/-- Cells from off on are overwritten. -/
def splice : List AV → Nat → List AV → Option (List AV)
  | cs, 0, [] => some cs
  | [], 0, _ :: _ => none
  | _ :: cs, 0, x :: xs => (match splice cs 0 xs with | some r => some (x :: r) | none => none)
  | [], _ + 1, _ => none
  | c :: cs, n + 1, xs => (match splice cs n xs with | some r => some (c :: r) | none => none)
/-- n cells from off on. -/
def cut : List AV → Nat → Nat → Option (List AV)
  | _, 0, 0 => some []
  | [], 0, _ + 1 => none
  | c :: cs, 0, n + 1 => (match cut cs 0 n with | some r => some (c :: r) | none => none)
  | [], _ + 1, _ => none
  | _ :: cs, o + 1, n => cut cs o n

/-- A type's short form. -/
inductive TD where
  | int (k : IntKind) | bool | str | ptr (e : TypeId) | slice (e : TypeId) | arr (n : Nat) (e : TypeId) | st (fs : List (Nat × TypeId)) | iface | map (k v : TypeId) | fn | uptr | other
def digest : TypeDesc → TD
  | .int k => .int k
  | .bool => .bool
  | .string => .str
  | .pointer e => .ptr e
  | .slice e => .slice e
  | .array n e => .arr n e
  | .struct fs => .st (fs.toList.map fun f => (f.offset, f.type))
  | .interface _ => .iface
  | .map k v => .map k v
  | .func _ _ _ => .fn
  | .unsafePointer => .uptr
  | _ => .other
structure TRow where
  d : TD
  size : Nat
  bytes : Nat
  z : Value
  kd : Option Kd

def ofS : Value → AV
  | .int k n => .int k (.l n)
  | .bool b => .bool (.l b)
  | .string s => .str fun _ => s
  | .pointer none => .nilp
  | .slice none 0 0 => .nils
  | .nilFunc => .nilf
  | .nilIface => .nili
  | .map none => .nilm
  | _ => .any
def ofSs : List Value → List AV
  | [] => []
  | v :: vs => ofS v :: ofSs vs
def ofV : Value → AV
  | .agg cs => .agg (ofSs cs.toList)
  | .tuple cs => .tup (ofSs cs.toList)
  | .func f a b => if a.size = 0 ∧ b.size = 0 then .fn f [] [] else .any
  | v => ofS v
def AV.cells (v : AV) : List AV :=
  match v with
  | .agg cs => cs
  | v => [v]

mutual
def Kd.enc : (K : Kd) → (Unit → K.T) → List AV
  | .int k, x => [.int k (.t x)]
  | .bool, x => [.bool (.t x)]
  | .str, x => [.str x]
  | .slice e, x => [.ro e x]
  | .struct fs, x => Kds.enc fs x
def Kds.enc : (fs : List Kd) → (Unit → Kds.T fs) → List AV
  | [], _ => []
  | k :: ks, x => k.enc (fun _ => (x ()).1) ++ Kds.enc ks (fun _ => (x ()).2)
end

def bytesOf (l : List Int) : ByteArray := ⟨(l.map fun n => n.toNat.toUInt8).toArray⟩
def bytesI (s : ByteArray) : List Int := s.data.toList.map fun b => (b.toNat : Int)
end Go.Sx
