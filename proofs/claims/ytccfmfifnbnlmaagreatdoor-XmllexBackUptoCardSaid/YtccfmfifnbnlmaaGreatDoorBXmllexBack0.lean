/- Several texts in one, in their order. -/
import Derived.Calls
import Derived.Below
import Derived.Orders
import Derived.Shelf.Unicode.DecodeSlow
import GoSem.Claims
import Derived.Test.YtccfmfifnbnlmaaGreatDoorProg
import Derived.Laws.IdiomCopy
import Derived.Laws.Cells
import Derived.Laws.Entries
import Derived.Laws.BytesString
import Derived.Lib.ConvBytes
section
/- An evaluator of the program's form on plain data: what a function computes, with no memory in sight. Definitions; that they are right is proved in the texts behind. -/
set_option linter.unusedVariables false
namespace Go.Proofs.YtccfmfifnbnlmaaGreatDoor.Ev
open Go
/-- Shapes of plain data. -/
inductive Ty where
 | unit
 | int (k : IntKind)
 | bool
 | str
 | pair (a b : Ty)
 | sl (e : Ty)
 | user (i : Nat)
 deriving DecidableEq
/-- What a shape's data are in Lean. -/
@[reducible] def Ty.den (U : Nat → Type) : Ty → Type
 | .unit => Unit
 | .int _ => Int
 | .bool => Bool
 | .str => ByteArray
 | .pair a b => a.den U × b.den U
 | .sl e => List (e.den U)
 | .user i => U i
def Ty.same : Ty → Ty → Bool
 | .unit,.unit => true
 | .int k,.int k' => decide (k = k')
 | .bool,.bool => true
 | .str,.str => true
 | .pair a b,.pair c d => a.same c && b.same d
 | .sl e,.sl f => e.same f
 | .user i,.user j => Nat.beq i j
 | _,_ => false
theorem Ty.same_eq : ∀ {a b : Ty},a.same b = true → a = b
 | .unit,.unit,_ => rfl
 | .int k,.int k',h => by simp [Ty.same] at h; rw [h]
 | .bool,.bool,_ => rfl
 | .str,.str,_ => rfl
 | .pair a b,.pair c d,h => by
  simp only [Ty.same,Bool.and_eq_true] at h
  rw [Ty.same_eq h.1,Ty.same_eq h.2]
 | .sl e,.sl f,h => by rw [Ty.same_eq (a := e) (b := f) h]
 | .user i,.user j,h => by rw [Nat.eq_of_beq_eq_true h]
/-- Data of a shape, where it is said to be another one that is the same. -/
def recast {U : Nat → Type} (a b : Ty) (x : List (a.den U)) : Option (List (b.den U)) :=
 match h : a.same b with
 | true => some (Ty.same_eq h ▸ x)
 | false => none
/-- Kinds of cells that are compared. -/
inductive CK where
 | bool
 | int (k : IntKind)
 | str
 deriving DecidableEq
/-- May the slice's spare room be written? -/
inductive Perm where
 | no
 | exact
 | tok (i : Nat)
 | nil
 | nn
 | em
/-- May be told of a slice that is none. -/
def Perm.som : Perm → Bool
 | .nil => false
 | .em => false
 | _ => true
/-- May be told of a slice that is nil. -/
def Perm.zer : Perm → Bool
 | .nn => false
 | _ => true
/-- Values as the evaluator has them. -/
inductive AVal (U : Nat → Type) where
 | junk
 | und
 | bool (b : Bool)
 | int (k : IntKind) (n : Int)
 | str (s : ByteArray)
 | nilp
 | nili
 | nilf
 | nils
 | ptr (b off : Nat)
 | rp (cs : List (AVal U))
 | sl (t : Ty) (l : List (t.den U)) (p : Perm)
 | agg (cs : List (AVal U))
 | tup (vs : List (AVal U))
 | iface (t : TypeId) (v : AVal U)
 | fn (f : FuncId) (caps : List (AVal U))
 | gd (d : Nat) (want g : Bool) (v : AVal U)
/-- Data of trees: cells of them and back. -/
structure Codec (U : Nat → Type) where
 flat : (i : Nat) → U i → List (AVal U)
 unflat : (i : Nat) → List (AVal U) → Option (U i × List (AVal U))
 width : Nat → Nat
section
variable {U : Nat → Type}
def flat (C : Codec U) : (t : Ty) → t.den U → List (AVal U)
 | .unit,_ => []
 | .int k,n => [.int k n]
 | .bool,b => [.bool b]
 | .str,s => [.str s]
 | .pair a b,x => flat C a x.1 ++ flat C b x.2
 | .sl e,l => [.sl e l .no]
 | .user i,x => C.flat i x
def width (C : Codec U) : Ty → Nat
 | .unit => 0
 | .int _ | .bool | .str | .sl _ => 1
 | .pair a b => width C a + width C b
 | .user i => C.width i
def unflat (C : Codec U) : (t : Ty) → List (AVal U) → Option (t.den U × List (AVal U))
 | .unit,cs => some ((),cs)
 | .int k,.int k' n :: cs => if k' = k then some (n,cs) else none
 | .bool,.bool b :: cs => some (b,cs)
 | .str,.str s :: cs => some (s,cs)
 | .pair a b,cs => (unflat C a cs).bind fun x => (unflat C b x.2).bind fun y => some ((x.1,y.1),y.2)
 | .sl e,.sl e' l _ :: cs => (recast e' e l).bind fun l => some (l,cs)
 | .sl _,.nils :: cs => some ([],cs)
 | .user i,cs => C.unflat i cs
 | _,_ => none
def unflatAll (C : Codec U) (t : Ty) : Nat → List (AVal U) → Option (List (t.den U))
 | 0,_ => some []
 | n + 1,cs => (unflat C t cs).bind fun x => (unflatAll C t n x.2).bind fun l => some (x.1 :: l)
/-- What the evaluator knows of a type. -/
inductive TK where
 | bool
 | int (k : IntKind)
 | str
 | st (fs : List (Nat × TypeId))
 | sl (elem : TypeId) (ty : Ty)
 | ptr (e : TypeId)
 | arr (n : Nat) (e : TypeId) (ty : Option Ty)
 | ifc
 | fn
 | tup
 | other
structure TInf (U : Nat → Type) where
 k : TK
 size : Nat
 bytes : Nat
 zero : List (AVal U)
def TK.agg : TK → Bool
 | .st _ | .arr _ _ _ => true
 | _ => false
def TK.known : TK → Bool
 | .other => false
 | .tup => false
 | _ => true
structure St (U : Nat → Type) where
 env : List (Nat × AVal U)
 box : List (List (AVal U))
 live : List Nat
 nt : Nat
 wb : Nat
 wt : Nat
 bt : Nat
 bb : Nat
 fn : FuncId
 gs : List Nat
 n : Nat
inductive Out (U : Nat → Type) where
 | normal
 | exit (id : Nat)
 | ret
 | pan (v : AVal U)
inductive Res (U : Nat → Type) where
 | ret (v : AVal U)
 | pan (v : AVal U)
structure Cx (U : Nat → Type) (R : Type) where
 TT : TypeId → TInf U
 FT : FuncId → Option Func
 ext : FuncId → Option (Bool × (List (AVal U) → St U → (Res U → St U → Option R) → Option R))
 live : FuncId → Nat → List (Nat × Bool)
 C : Codec U
 eqs : List (Nat × List CK)
def hasTok (i : Nat) : List Nat → Bool
 | [] => false
 | a :: r => match Nat.beq a i with
  | true => true
  | false => hasTok i r
def lookup : Nat → List (Nat × AVal U) → Option (AVal U)
 | _,[] => none
 | d,(a,v) :: r => match Nat.beq a d with
  | true => some v
  | false => lookup d r
def ofConst : Value → Option (AVal U)
 | .bool b => some (.bool b)
 | .int k n => some (.int k n)
 | .string s => some (.str s)
 | .pointer none => some .nilp
 | .nilIface => some .nili
 | .nilFunc => some .nilf
 | .slice none 0 0 => some .nils
 | _ => none
def val (st : St U) : Operand → Option (AVal U)
 | .tmp t => lookup t st.env
 | .const v => ofConst v
 | .global _ => none
 | .func f => some (.fn f [])
def isGd : AVal U → Bool
 | .gd _ _ _ _ => true
 | _ => false
/-- What an operation sees that is guarded as its operand was. -/
def ungd (d : Nat) (want : Bool) : AVal U → AVal U
 | .gd d' want' g v => match Nat.beq d' d with
  | true => match want',want with
   | true,true => v
   | false,false => v
   | _,_ => .gd d' want' g v
  | false => .gd d' want' g v
 | v => v
def ungdBy (c : Operand) (want : Bool) (v : AVal U) : AVal U :=
 match c with
 | .tmp d => ungd d want v
 | _ => v
def vals (st : St U) : List Operand → Option (List (AVal U))
 | [] => some []
 | x :: r => (val st x).bind fun v => (vals st r).bind fun l => some (v :: l)
/-- A nil slice has its type where it is put. -/
def co (k : TK) : AVal U → AVal U
 | .nils => match k with
  | .sl _ ty => .sl ty [] .exact
  | _ => .nils
 | v => v
def St.put (st : St U) (dst : Option Nat) (v : AVal U) : St U :=
 match dst with
 | some d => { st with env := (d,v) :: st.env }
 | none => st
/-- One byte of a string. -/
def bt (s : ByteArray) (i : Int) : Int := if h : i.toNat < s.size then ((s[i.toNat]'h).toNat : Int) else 0
def seq (x y : ByteArray) : Bool := x.data.toList == y.data.toList
def sless (x y : ByteArray) : Bool := Op.bytesLess x.data.toList y.data.toList
def bits (op : BinOp) (k : IntKind) (x y : Int) : Int :=
 match op with
 | .and => k.wrap (BitVec.ofInt k.bits x &&& BitVec.ofInt k.bits y).toNat
 | .or => k.wrap (BitVec.ofInt k.bits x ||| BitVec.ofInt k.bits y).toNat
 | .xor => k.wrap (BitVec.ofInt k.bits x ^^^ BitVec.ofInt k.bits y).toNat
 | _ => k.wrap (BitVec.ofInt k.bits x &&& ~~~BitVec.ofInt k.bits y).toNat
section
variable {R : Type}
def binInt (op : BinOp) (k : IntKind) (x y : Int) (K : AVal U → Option R) : Option R :=
 match op with
 | .add => K (.int k (k.wrap (x + y)))
 | .sub => K (.int k (k.wrap (x - y)))
 | .mul => K (.int k (k.wrap (x * y)))
 | .quo => if y = 0 then none else K (.int k (k.wrap (x.tdiv y)))
 | .rem => if y = 0 then none else K (.int k (x.tmod y))
 | .and => K (.int k (bits .and k x y))
 | .or => K (.int k (bits .or k x y))
 | .xor => K (.int k (bits .xor k x y))
 | .andNot => K (.int k (bits .andNot k x y))
 | .eql => K (.bool (x == y))
 | .neq => K (.bool (x != y))
 | .lss => K (.bool (decide (x < y)))
 | .leq => K (.bool (decide (x ≤ y)))
 | .gtr => K (.bool (decide (x > y)))
 | .geq => K (.bool (decide (x ≥ y)))
 | _ => none
def shift (op : BinOp) (k : IntKind) (x y : Int) (K : AVal U → Option R) : Option R :=
 if y < 0 then none else
 match op with
 | .shl => K (.int k (k.wrap (x * 2 ^ (min y.toNat k.bits))))
 | .shr => K (.int k (x.fdiv (2 ^ (min y.toNat k.bits))))
 | _ => none
def binStr (op : BinOp) (x y : ByteArray) (K : AVal U → Option R) : Option R :=
 match op with
 | .add => if x.size + y.size ≤ 9223372036854775807 then K (.str (x ++ y)) else none
 | .eql => K (.bool (seq x y))
 | .neq => K (.bool (!seq x y))
 | .lss => K (.bool (sless x y))
 | .leq => K (.bool (sless x y || seq x y))
 | .gtr => K (.bool (!(sless x y || seq x y)))
 | .geq => K (.bool (!sless x y))
 | _ => none
/-- Are two values of a type equal? (flat cells of these kinds) -/
def eqCells : List CK → List (AVal U) → List (AVal U) → Option Bool
 | [],[],[] => some true
 | .int k :: ks,.int k1 x :: r,.int k2 y :: r' => if k1 = k then if k2 = k then (eqCells ks r r').bind fun b => some ((x == y) && b) else none else none
 | .bool :: ks,.bool x :: r,.bool y :: r' => (eqCells ks r r').bind fun b => some ((x == y) && b)
 | .str :: ks,.str x :: r,.str y :: r' => (eqCells ks r r').bind fun b => some (seq x y && b)
 | _,_,_ => none
def findE (t : Nat) : List (Nat × List CK) → Option (List CK)
 | [] => none
 | (a,i) :: r => match Nat.beq a t with
  | true => some i
  | false => findE t r
def nilPtr : AVal U → AVal U → Option Bool
 | .nilp,.nilp => some true
 | .nilp,.ptr _ _ => some false
 | .ptr _ _,.nilp => some false
 | .nilp,.rp _ => some false
 | .rp _,.nilp => some false
 | _,_ => none
def nilIfc (const : Bool) : AVal U → AVal U → Option Bool
 | .nili,.nili => match const with
  | true => some true
  | false => none
 | .nili,.iface _ _ => some false
 | .iface _ _,.nili => some false
 | _,_ => none
def nilSl {α : Type} (l : List α) (p : Perm) : Option Bool :=
 match p with
 | .em => some l.isEmpty
 | .nil => some true
 | .nn => some false
 | _ => match l with
  | _ :: _ => some false
  | [] => none
/-- What is left of a slice may be none and yet not nil. -/
def tailP : Perm → Perm
 | .em => .no
 | p => p
def nilSlV : AVal U → AVal U → Option Bool
 | .sl _ l p,.nils => nilSl l p
 | _,_ => none
def binEq (cx : Cx U R) (t : TypeId) (const : Bool) (x y : AVal U) : Option Bool :=
 match x,y with
 | .bool a,.bool b => match (cx.TT t).k with
  | .bool => some (a == b)
  | _ => none
 | .agg a,.agg b => (findE t cx.eqs).bind fun ks => eqCells ks a b
 | x,y => match (cx.TT t).k with
  | .ptr _ => nilPtr x y
  | .ifc => nilIfc const x y
  | .sl _ _ => nilSlV x y
  | _ => none
def binOp (cx : Cx U R) (op : BinOp) (t : TypeId) (const : Bool) (x y : AVal U) (K : AVal U → Option R) : Option R :=
 match op,x,y with
 | .shl,.int k a,.int _ b => shift .shl k a b K
 | .shr,.int k a,.int _ b => shift .shr k a b K
 | op,.int k a,.int k' b => if k = k' then binInt op k a b K else none
 | op,.str a,.str b => binStr op a b K
 | .eql,x,y => (binEq cx t const x y).bind fun b => K (.bool b)
 | .neq,x,y => (binEq cx t const x y).bind fun b => K (.bool (!b))
 | _,_,_ => none
def isConst : Operand → Bool
 | .const _ => true
 | _ => false
def unOp (op : UnOp) (x : AVal U) : Option (AVal U) :=
 match op,x with
 | .neg,.int k n => some (.int k (k.wrap (0 - n)))
 | .xor,.int k n => some (.int k (bits .xor k (if k.signed then -1 else k.max) n))
 | .not,.bool b => some (.bool (!b))
 | _,_ => none
def nth {α : Type} : List α → Nat → Option α
 | [],_ => none
 | x :: _,0 => some x
 | _ :: r,n + 1 => nth r n
/-- Bytes of a slice as a string, and back. -/
def ofBytes (l : List Int) : ByteArray := ⟨(l.map fun n => UInt8.ofNat n.toNat).toArray⟩
def toBytes (s : ByteArray) : List Int := s.data.toList.map fun b => (b.toNat : Int)
def pick (t : Bool) (x y : AVal U) (K : AVal U → Option R) : Option R :=
 match x,y with
 | .int k a,.int k' b => if k = k' then K (.int k (if t = true then a else b)) else none
 | .bool a,.bool b => K (.bool (if t = true then a else b))
 | .str a,.str b => K (.str (if t = true then a else b))
 | x,y => if t = true then K x else K y
/-- The most bytes that an append may come to. -/
def most : Nat := 140737488351232
def putAt {α : Type} (cs : List α) : Nat → List α → List α
 | _,[] => cs
 | off,v :: r => putAt (cs.set off v) (off + 1) r
/-- Values that a cell can hold. -/
def okCell : AVal U → Bool
 | .junk | .und | .agg _ | .tup _ | .gd _ _ _ _ => false
 | _ => true
def okCells : List (AVal U) → Bool
 | [] => true
 | v :: r => okCell v && okCells r
def cellsOf : AVal U → Option (List (AVal U))
 | .agg cs => match okCells cs with
  | true => some cs
  | false => none
 | v => match okCell v with
  | true => some [v]
  | false => none
/-- A nil slice in a cell has the type of what lies there. -/
def coCell (cs : List (AVal U)) (off : Nat) : AVal U → Option (AVal U)
 | .nils => match nth cs off with
  | some (.sl ty _ _) => some (.sl ty [] .exact)
  | _ => none
 | v => some v
def fill (place : Nat → Option (Nat × Nat)) (cs : List (AVal U)) : List (Nat × AVal U) → Option (List (AVal U))
 | [] => some cs
 | (i,v) :: r => (place i).bind fun p => (coCell cs p.1 v).bind fun v => (cellsOf v).bind fun l =>
  match Nat.beq l.length p.2 && Nat.ble (p.1 + p.2) cs.length with
  | true => fill place (putAt cs p.1 l) r
  | false => none
def partVals (st : St U) : List (Nat × Operand) → Option (List (Nat × AVal U))
 | [] => some []
 | (i,x) :: r => (val st x).bind fun v => (partVals st r).bind fun l => some ((i,v) :: l)
def reps (z : List (AVal U)) : Nat → List (AVal U)
 | 0 => []
 | n + 1 => z ++ reps z n
/-- Cells that stand at a pointer. -/
def at? (st : St U) : AVal U → Option (List (AVal U))
 | .ptr b off => (nth st.box b).bind fun cs => some (cs.drop off)
 | .rp cs => some cs
 | _ => none
def loadAt (cx : Cx U R) (t : TypeId) (cs : List (AVal U)) : Option (AVal U) :=
 match (cx.TT t).k.known with
 | true => match (cx.TT t).k.agg with
  | true => match Nat.ble (cx.TT t).size cs.length with
   | true => some (.agg (cs.take (cx.TT t).size))
   | false => none
  | false => match cs with
   | v :: _ => some v
   | [] => none
 | false => none
def bound (x : AVal U) : Option Int :=
 match x with
 | .int _ n => some n
 | _ => none
/-- An index into few: by cases. -/
def cases (n : Nat) (i : Int) (K : Nat → Option R) : Option R :=
 match n with
 | 0 => none
 | m + 1 => if i = (m : Int) then K m else cases m i K
def newTok (st : St U) : St U := { st with nt := st.nt + 1,live := st.nt :: st.live }
def delTok (i : Nat) : List Nat → List Nat
 | [] => []
 | a :: r => match Nat.beq a i with
  | true => r
  | false => a :: delTok i r
def appendTo (bytes : Nat) (t : Ty) (l l2 : List (t.den U)) (p : Perm) (st : St U) (K : AVal U → St U → Option R) : Option R :=
 if (l.length + l2.length) * bytes ≤ most then
  match p with
  | .no => none
  | .nil => none
  | .nn => none
  | .em => none
  | .exact => K (.sl t (l ++ l2) (.tok st.nt)) (newTok st)
  | .tok i => match hasTok i st.live && Nat.ble st.wt i with
   | true => K (.sl t (l ++ l2) (.tok st.nt)) (newTok { st with live := delTok i st.live })
   | false => none
 else none
def append (cx : Cx U R) (tid xid : TypeId) (s x : AVal U) (st : St U) (K : AVal U → St U → Option R) : Option R :=
 match (cx.TT tid).k with
 | .sl elem ty =>
  match co (.sl elem ty) s,co (.sl elem ty) x with
  | .sl t l p,.sl t' l2 _ => match (cx.TT xid).k with
   | .sl elem' _ => match Nat.beq elem' elem with
    | true => (recast t ty l).bind fun l => (recast t' ty l2).bind fun l2 => appendTo (cx.TT elem).bytes ty l l2 p st K
    | false => none
   | _ => none
  | .sl t l p,.str s => match (cx.TT xid).k with
   | .str => (recast t (.int .u8) l).bind fun l => match ty with
    | .int .u8 => appendTo (cx.TT elem).bytes (.int .u8) l (toBytes s) p st K
    | _ => none
   | _ => none
  | _,_ => none
 | _ => none
def lenOf (cx : Cx U R) (t : TypeId) (x : AVal U) : Option Int :=
 match (cx.TT t).k with
 | .str => match x with
  | .str s => some s.size
  | _ => none
 | .sl _ _ => match x with
  | .sl _ l _ => some l.length
  | .nils => some 0
  | _ => none
 | .arr n _ _ => some n
 | .ptr e => match (cx.TT e).k with
  | .arr n _ _ => some n
  | _ => none
 | _ => none
def sliceOp (cx : Cx U R) (tid : TypeId) (x : AVal U) (lo hi mx : Option (AVal U)) (st : St U) (K : AVal U → St U → Option R) : Option R :=
 match x with
 | .str s => match (cx.TT tid).k with
  | .str => match lo.map bound,hi.map bound,mx with
   | none,none,none => K (.str s) st
   | some (some a),none,none => if 0 ≤ a then if a ≤ (s.size : Int) then K (.str (s.extract a.toNat s.size)) st else none else none
   | none,some (some b),none => if 0 ≤ b then if b ≤ (s.size : Int) then K (.str (s.extract 0 b.toNat)) st else none else none
   | some (some a),some (some b),none => if 0 ≤ a then if a ≤ b then if b ≤ (s.size : Int) then K (.str (s.extract a.toNat b.toNat)) st else none else none else none
   | _,_,_ => none
  | _ => none
 | .sl t l0 p =>
  match (cx.TT tid).k with
  | .sl elem ty => (recast t ty l0).bind fun l =>
   match lo.map bound,hi.map bound,mx with
   | none,none,none => K (.sl ty l (tailP p)) st
   | some (some a),none,none => if 0 ≤ a then if a ≤ (l.length : Int) then K (.sl ty (l.drop a.toNat) (tailP p)) st else none else none
   | none,some (some b),none => if 0 ≤ b then if b ≤ (l.length : Int) then K (.sl ty (l.take b.toNat) .no) st else none else none
   | some (some a),some (some b),none => if 0 ≤ a then if a ≤ b then if b ≤ (l.length : Int) then K (.sl ty ((l.take b.toNat).drop a.toNat) .no) st else none else none else none
   | _,_,_ => none
  | _ => none
 | .ptr b 0 =>
  match (cx.TT tid).k with
  | .arr n e (some ty) => match lo,hi,mx with
   | none,none,none => (nth st.box b).bind fun cs => match Nat.beq cs.length (n * (cx.TT e).size) && Nat.ble st.wb b with
    | true => (unflatAll cx.C ty n cs).bind fun l => K (.sl ty l .exact) { st with box := st.box.set b [] }
    | false => none
   | _,_,_ => none
  | _ => none
 | _ => none
def elemSize (cx : Cx U R) (e : TypeId) : Option Nat :=
 match (cx.TT e).k.known && !Nat.beq (cx.TT e).size 0 with
 | true => some (cx.TT e).size
 | false => none
def indexAddr (cx : Cx U R) (tid : TypeId) (x : AVal U) (i : AVal U) (K : AVal U → Option R) : Option R :=
 match x,i with
 | .sl t l0 _,.int _ n =>
  match (cx.TT tid).k with
  | .sl elem ty => (recast t ty l0).bind fun l => if 0 ≤ n then (nth l n.toNat).bind fun e => K (.rp (flat cx.C ty e)) else none
  | _ => none
 | .ptr b off,.int _ n =>
  match (cx.TT tid).k with
  | .arr len e _ => (elemSize cx e).bind fun z => cases len n fun m => K (.ptr b (off + m * z))
  | _ => none
 | .rp cs,.int _ n =>
  match (cx.TT tid).k with
  | .arr len e _ => (elemSize cx e).bind fun z => cases len n fun m => K (.rp (cs.drop (m * z)))
  | _ => none
 | _,_ => none
def index (cx : Cx U R) (tid : TypeId) (x : AVal U) (i : AVal U) (K : AVal U → Option R) : Option R :=
 match x,i with
 | .str s,.int _ n => match (cx.TT tid).k with
  | .str => if 0 ≤ n then if n < (s.size : Int) then K (.int .u8 (bt s n)) else none else none
  | _ => none
 | .agg cs,.int _ n =>
  match (cx.TT tid).k with
  | .arr len e _ => (elemSize cx e).bind fun z => cases len n fun m => (loadAt cx e (cs.drop (m * z))).bind K
  | _ => none
 | _,_ => none
def convert (cx : Cx U R) (src dst : TypeId) (x : AVal U) (st : St U) (K : AVal U → St U → Option R) : Option R :=
 match (cx.TT src).k,(cx.TT dst).k,co (cx.TT src).k x with
 | .int _,.int k,.int _ n => K (.int k (k.wrap n)) st
 | .str,.str,.str s => K (.str s) st
 | .sl _ (.int .u8),.str,.sl t l _ => (recast t (.int .u8) l).bind fun l => K (.str (ofBytes l)) st
 | .str,.sl e (.int .u8),.str s => K (.sl (.int .u8) (toBytes s) (.tok st.nt)) (newTok st)
 | .sl _ (.int .u8),.sl _ (.int .u8),.sl t (n :: l) .exact => match Nat.beq src dst with
  | true => (recast t (.int .u8) (n :: l)).bind fun l => K (.sl (.int .u8) l .exact) st
  | false => none
 | _,_,_ => none
def makeSlice (cx : Cx U R) (tid : TypeId) (l c : AVal U) (st : St U) (K : AVal U → St U → Option R) : Option R :=
 match (cx.TT tid).k,l,c with
 | .sl elem ty,.int _ n,.int _ m =>
  if 0 ≤ n then if n ≤ m then if m * (cx.TT elem).bytes ≤ most ∧ m ≤ 9223372036854775807 then
   (unflat cx.C ty (cx.TT elem).zero).bind fun z => K (.sl ty (List.replicate n.toNat z.1) (.tok st.nt)) (newTok st)
  else none else none else none
 | _,_,_ => none
def builtin (cx : Cx U R) (b : Builtin) (argTypes : List TypeId) (args : List (AVal U)) (st : St U) (K : AVal U → St U → Option R) : Option R :=
 match b,argTypes,args with
 | .len,[t],[x] => (lenOf cx t x).bind fun n => K (.int .i64 n) st
 | .append,[t,u],[s,x] => append cx t u s x st K
 | .min,_,[.int k x,.int k' y] => if k = k' then K (.int k (if y < x then y else x)) st else none
 | .max,_,[.int k x,.int k' y] => if k = k' then K (.int k (if y > x then y else x)) st else none
 | _,_,_ => none
def places (cx : Cx U R) (t : TypeId) : Nat → Option (Nat × Nat) :=
 match (cx.TT t).k with
 | .st fs => fun i => (nth fs i).bind fun f => match (cx.TT f.2).k.known with
  | true => some (f.1,(cx.TT f.2).size)
  | false => none
 | .arr _ e _ => fun i => match (cx.TT e).k.known with
  | true => some (i * (cx.TT e).size,(cx.TT e).size)
  | false => none
 | _ => fun _ => none
mutual
def ptrsUnder (n : Nat) : AVal U → Bool
 | .ptr b _ => Nat.blt b n
 | .agg cs => ptrsAll n cs
 | .tup cs => ptrsAll n cs
 | .rp cs => ptrsAll n cs
 | .fn _ cs => ptrsAll n cs
 | .iface _ v => ptrsUnder n v
 | .gd _ _ _ _ => false
 | _ => true
def ptrsAll (n : Nat) : List (AVal U) → Bool
 | [] => true
 | v :: r => ptrsUnder n v && ptrsAll n r
end
def ptrsBoxes (n : Nat) : List (List (AVal U)) → Bool
 | [] => true
 | b :: r => ptrsAll n b && ptrsBoxes n r
def upto (a : Nat) : Nat → List Nat
 | 0 => []
 | n + 1 => (a + n) :: upto a n
/-! ### a call sees what its arguments reach, and no more -/
def idx (b : Nat) : List Nat → Option Nat
 | [] => none
 | a :: r => match Nat.beq a b with
  | true => some 0
  | false => match idx b r with
   | some i => some (i + 1)
   | none => none
def uniqB : List Nat → Bool
 | [] => true
 | a :: r => !hasTok a r && uniqB r
def allIn (live : List Nat) : List Nat → Bool
 | [] => true
 | a :: r => hasTok a live && allIn live r
def addN (b : Nat) (l : List Nat) : List Nat :=
 match hasTok b l with
 | true => l
 | false => l ++ [b]
mutual
def ptrsOf : AVal U → List Nat → List Nat
 | .ptr b _,l => addN b l
 | .agg cs,l => ptrsOfs cs l
 | .tup cs,l => ptrsOfs cs l
 | .rp cs,l => ptrsOfs cs l
 | .fn _ cs,l => ptrsOfs cs l
 | .iface _ v,l => ptrsOf v l
 | _,l => l
def ptrsOfs : List (AVal U) → List Nat → List Nat
 | [],l => l
 | v :: r,l => ptrsOfs r (ptrsOf v l)
end
mutual
def toksOf (live : List Nat) : AVal U → List Nat → List Nat
 | .sl _ _ (.tok i),l => match hasTok i live with
  | true => addN i l
  | false => l
 | .agg cs,l => toksOfs live cs l
 | .tup cs,l => toksOfs live cs l
 | .rp cs,l => toksOfs live cs l
 | .fn _ cs,l => toksOfs live cs l
 | .iface _ v,l => toksOf live v l
 | _,l => l
def toksOfs (live : List Nat) : List (AVal U) → List Nat → List Nat
 | [],l => l
 | v :: r,l => toksOfs live r (toksOf live v l)
end
def boxesAt (bx : List (List (AVal U))) : List Nat → Option (List (List (AVal U)))
 | [] => some []
 | b :: r => (nth bx b).bind fun cs => (boxesAt bx r).bind fun l => some (cs :: l)
def ptrsOfBoxes : List (List (AVal U)) → List Nat → List Nat
 | [],l => l
 | cs :: r,l => ptrsOfBoxes r (ptrsOfs cs l)
def toksOfBoxes (live : List Nat) : List (List (AVal U)) → List Nat → List Nat
 | [],l => l
 | cs :: r,l => toksOfBoxes live r (toksOfs live cs l)
/-- The boxes that are reached. -/
def reach (bx : List (List (AVal U))) : Nat → List Nat → List Nat
 | 0,l => l
 | n + 1,l => match boxesAt bx l with
  | some cs => match Nat.beq (ptrsOfBoxes cs l).length l.length with
   | true => l
   | false => reach bx n (ptrsOfBoxes cs l)
  | none => l
def renP (kp : Bool) (ts : List Nat) : Perm → Perm
 | .tok i => match idx i ts with
  | some j => .tok j
  | none => .no
 | .exact => match kp with
  | true => .exact
  | false => .no
 | .no => .no
 | .nil => .nil
 | .nn => .nn
 | .em => .no
mutual
def ren (kp : Bool) (bs ts : List Nat) : AVal U → Option (AVal U)
 | .ptr b off => match idx b bs with
  | some i => some (.ptr i off)
  | none => none
 | .sl t l p => some (.sl t l (renP kp ts p))
 | .agg cs => (rens kp bs ts cs).bind fun l => some (.agg l)
 | .tup cs => (rens kp bs ts cs).bind fun l => some (.tup l)
 | .rp cs => (rens kp bs ts cs).bind fun l => some (.rp l)
 | .fn f cs => (rens kp bs ts cs).bind fun l => some (.fn f l)
 | .iface t v => (ren kp bs ts v).bind fun v => some (.iface t v)
 | .gd _ _ _ _ => none
 | v => some v
def rens (kp : Bool) (bs ts : List Nat) : List (AVal U) → Option (List (AVal U))
 | [] => some []
 | v :: r => (ren kp bs ts v).bind fun v => (rens kp bs ts r).bind fun l => some (v :: l)
end
def renBoxes (kp : Bool) (bs ts : List Nat) : List (List (AVal U)) → Option (List (List (AVal U)))
 | [] => some []
 | cs :: r => (rens kp bs ts cs).bind fun cs => (renBoxes kp bs ts r).bind fun l => some (cs :: l)
/-- How numbers of the call are numbers of the caller: those that came in, those that are new. -/
structure Back where
 bs : List Nat
 ts : List Nat
 bn : List Nat
 tn : List Nat
 nb : Nat
 nt : Nat
 kp : Bool
def glb (k : Back) (i : Nat) : Option Nat :=
 match nth k.bs i with
 | some b => some b
 | none => match idx i k.bn with
  | some m => some (k.nb + m)
  | none => none
def glt (k : Back) (j : Nat) : Option Nat :=
 match nth k.ts j with
 | some t => some t
 | none => match idx j k.tn with
  | some m => some (k.nt + m)
  | none => none
def gorP (k : Back) : Perm → Perm
 | .tok j => match glt k j with
  | some t => .tok t
  | none => .no
 | .exact => match k.kp with
  | true => .exact
  | false => .no
 | .no => .no
 | .nil => .nil
 | .nn => .nn
 | .em => .em
mutual
def gor (k : Back) : AVal U → Option (AVal U)
 | .ptr i off => (glb k i).bind fun b => some (.ptr b off)
 | .sl t l p => some (.sl t l (gorP k p))
 | .agg cs => (gors k cs).bind fun l => some (.agg l)
 | .tup cs => (gors k cs).bind fun l => some (.tup l)
 | .rp cs => (gors k cs).bind fun l => some (.rp l)
 | .fn f cs => (gors k cs).bind fun l => some (.fn f l)
 | .iface t v => (gor k v).bind fun v => some (.iface t v)
 | .gd _ _ _ _ => none
 | v => some v
def gors (k : Back) : List (AVal U) → Option (List (AVal U))
 | [] => some []
 | v :: r => (gor k v).bind fun v => (gors k r).bind fun l => some (v :: l)
end
def gorBoxes (k : Back) : List (List (AVal U)) → Option (List (List (AVal U)))
 | [] => some []
 | cs :: r => (gors k cs).bind fun cs => (gorBoxes k r).bind fun l => some (cs :: l)
def setAll (bx : List (List (AVal U))) : List Nat → List (List (AVal U)) → List (List (AVal U))
 | b :: bs,cs :: r => setAll (bx.set b cs) bs r
 | _,_ => bx
/-- Those that came in and still live. -/
def stay (live : List Nat) : Nat → List Nat → List Nat
 | _,[] => []
 | j,t :: r => match hasTok j live with
  | true => t :: stay live (j + 1) r
  | false => stay live (j + 1) r
def minus (ts : List Nat) : List Nat → List Nat
 | [] => []
 | a :: r => match hasTok a ts with
  | true => minus ts r
  | false => a :: minus ts r
/-- Those from a number on. -/
def above (n : Nat) : List Nat → List Nat
 | [] => []
 | a :: r => match Nat.ble n a with
  | true => a :: above n r
  | false => above n r
def resVal : Res U → AVal U
 | .ret v => v
 | .pan v => v
def resWith : Res U → AVal U → Res U
 | .ret _,v => .ret v
 | .pan _,v => .pan v
def globalize (k : Back) (st st' : St U) (cs ns : List (List (AVal U))) (res : Res U) : Option (Res U × St U) :=
 match uniqB k.bn && (uniqB k.tn && allIn st'.live k.tn) with
 | true => (gor k (resVal res)).bind fun v => (gorBoxes k cs).bind fun cs => (gorBoxes k ns).bind fun ns =>
  some (resWith res v,{ st with box := setAll st.box k.bs cs ++ ns,live := upto st.nt k.tn.length ++ (stay st'.live 0 k.ts ++ minus k.ts st.live),nt := st.nt + k.tn.length })
 | false => none
/-- The new tokens that are kept behind a call. -/
def toksOut (kp : Bool) (n : Nat) (live : List Nat) (ns cs : List (List (AVal U))) (v : AVal U) : List Nat :=
 match kp with
 | true => above n (toksOfBoxes live ns (toksOfBoxes live cs (toksOf live v [])))
 | false => []
/-- Behind the call: what is new and reached is kept. -/
def returnTo (kp : Bool) (bs ts : List Nat) (st st' : St U) (res : Res U) : Option (Res U × St U) :=
 match above bs.length (reach st'.box 3 (ptrsOfBoxes (st'.box.take bs.length) (ptrsOf (resVal res) []))) with
 | bn => (boxesAt st'.box bn).bind fun ns =>
  globalize ⟨bs,ts,bn,toksOut kp ts.length st'.live ns (st'.box.take bs.length) (resVal res),st.box.length,st.nt,kp⟩ st st' (st'.box.take bs.length) ns res
def lcSt (cs : List (List (AVal U))) (n : Nat) : St U := ⟨[],cs,upto 0 n,n,0,0,0,0,0,[],0⟩
/-- A call of its own: it is run on what it reaches. -/
def callAt {R : Type} (kp : Bool) (spec : List (AVal U) → St U → (Res U → St U → Option R) → Option R) (bs ts : List Nat) (args : List (AVal U)) (st : St U) (K : Res U → St U → Option R) : Option R :=
 match uniqB bs && (uniqB ts && allIn st.live ts) with
 | true => (boxesAt st.box bs).bind fun cs => (rens kp bs ts args).bind fun args' => (renBoxes kp bs ts cs).bind fun cs' =>
  spec args' (lcSt cs' ts.length) fun res st' => (returnTo kp bs ts st st' res).bind fun x => K x.1 x.2
 | false => none
/-- The tokens that go with a call. -/
def toksIn (kp : Bool) (live : List Nat) (cs : List (List (AVal U))) (args : List (AVal U)) : List Nat :=
 match kp with
 | true => toksOfBoxes live cs (toksOfs live args [])
 | false => []
def callX {R : Type} (kp : Bool) (spec : List (AVal U) → St U → (Res U → St U → Option R) → Option R) (args : List (AVal U)) (st : St U) (K : Res U → St U → Option R) : Option R :=
 match reach st.box 3 (ptrsOfs args []) with
 | bs => match boxesAt st.box bs with
  | some cs => callAt kp spec bs (toksIn kp st.live cs args) args st K
  | none => none
def coArgs (cx : Cx U R) : List TypeId → List (AVal U) → List (AVal U)
 | t :: ts,v :: r => co (cx.TT t).k v :: coArgs cx ts r
 | _,l => l
/-- A type's zero value. -/
def zeroV (cx : Cx U R) (t : TypeId) : Option (AVal U) :=
 match (cx.TT t).k.agg with
 | true => some (.agg (cx.TT t).zero)
 | false => match (cx.TT t).zero with
  | [v] => some v
  | _ => none
def assertTo (cx : Cx U R) (t : TypeId) (ok : Bool) (v : AVal U) (st : St U) (K : AVal U → St U → Option R) : Option R :=
 match v with
 | .iface t' u => match Nat.beq t' t with
  | true => match ok with
   | true => K (.tup [u,.bool true]) st
   | false => K u st
  | false => match ok with
   | true => (zeroV cx t).bind fun z => K (.tup [z,.bool false]) st
   | false => none
 | .nili => match ok with
  | true => (zeroV cx t).bind fun z => K (.tup [z,.bool false]) st
  | false => none
 | _ => none
def canBuild (cx : Cx U R) (t : TypeId) : Bool :=
 match (cx.TT t).k with
 | .st _ => true
 | .arr _ e _ => (cx.TT e).k.known
 | _ => false
/-- One operation; a panic of the program's own goes to KP. -/
def exOp (cx : Cx U R) (callR : FuncId → List (AVal U) → St U → (Res U → St U → Option R) → Option R) (o : Oper) (st : St U)
 (K : AVal U → St U → Option R) (KP : AVal U → St U → Option R) : Option R :=
 match o.op with
 | .move x => (val st x).bind fun v => K v st
 | .assign x => (val st x).bind fun v => K v st
 | .pick c0 a b => (val st c0).bind fun c => (val st a).bind fun a => (val st b).bind fun b => match c with
  | .bool t => pick t (ungdBy c0 true a) (ungdBy c0 false b) fun v => K v st
  | _ => none
 | .alloc t => match (cx.TT t).k.known with
  | true => K (.ptr st.box.length 0) { st with box := st.box ++ [(cx.TT t).zero] }
  | false => none
 | .box t x => (val st x).bind fun v => (cellsOf (co (cx.TT t).k v)).bind fun l => K (.ptr st.box.length 0) { st with box := st.box ++ [l] }
 | .build t parts => match canBuild cx t with
  | true => (partVals st parts.toList).bind fun ps => (fill (places cx t) (cx.TT t).zero ps).bind fun cs => K (.agg cs) st
  | false => none
 | .buildSlice t len parts => (partVals st parts.toList).bind fun ps => match (cx.TT t).k with
  | .sl elem ty => match Nat.ble len 1000 && Nat.ble (len * (cx.TT elem).size) 16777216 with
   | true => (fill (fun i => some (i * (cx.TT elem).size,(cx.TT elem).size)) (reps (cx.TT elem).zero len) ps).bind fun cs =>
    (unflatAll cx.C ty len cs).bind fun l => K (.sl ty l .exact) st
   | false => none
  | _ => none
 | .load t a => (val st a).bind fun p => (at? st p).bind fun cs => (loadAt cx t cs).bind fun v => K v st
 | .store t a x => (val st a).bind fun p => (val st x).bind fun v => match p with
  | .ptr b off => match Nat.ble st.wb b with
   | true => (nth st.box b).bind fun cs => (cellsOf (co (cx.TT t).k v)).bind fun l =>
    match Nat.beq l.length (cx.TT t).size && Nat.ble (off + l.length) cs.length && (cx.TT t).k.known with
    | true => K .junk { st with box := st.box.set b (putAt cs off l) }
    | false => none
   | false => none
  | _ => none
 | .nilCheck x => (val st x).bind fun v => match v with
  | .ptr _ _ => K v st
  | .rp _ => K v st
  | .fn _ _ => K v st
  | _ => none
 | .binOp op t x y _ => (val st x).bind fun a => (val st y).bind fun b => binOp cx op t (isConst x || isConst y) a b fun v => K v st
 | .unOp op _ x => (val st x).bind fun a => (unOp op a).bind fun v => K v st
 | .convert s d x => (val st x).bind fun a => convert cx s d a st K
 | .makeInterface t x => (val st x).bind fun v => match (cx.TT t).k with
  | .ifc => none
  | k => match k.known with
   | true => K (.iface t (co k v)) st
   | false => none
 | .makeFunc f first caps => match f,first.toList with
  | .func g,[] => (vals st caps.toList).bind fun l => K (.fn g l) st
  | _,_ => none
 | .makeSlice t l c => (val st l).bind fun a => (val st c).bind fun b => makeSlice cx t a b st K
 | .slice t x lo hi mx => (val st x).bind fun a => match lo.map (val st),hi.map (val st),mx.map (val st) with
  | none,none,none => sliceOp cx t a none none none st K
  | some (some l),none,none => sliceOp cx t a (some l) none none st K
  | none,some (some h),none => sliceOp cx t a none (some h) none st K
  | some (some l),some (some h),none => sliceOp cx t a (some l) (some h) none st K
  | _,_,_ => none
 | .fieldAddr t x f => (val st x).bind fun p => match (cx.TT t).k with
  | .st fs => (nth fs f).bind fun fo => match (cx.TT fo.2).k.known && !Nat.beq (cx.TT fo.2).size 0 with
   | true => match p with
    | .ptr b off => K (.ptr b (off + fo.1)) st
    | .rp cs => K (.rp (cs.drop fo.1)) st
    | _ => none
   | false => none
  | _ => none
 | .field t x f => (val st x).bind fun v => match (cx.TT t).k,v with
  | .st fs,.agg cs => (nth fs f).bind fun fo => (loadAt cx fo.2 (cs.drop fo.1)).bind fun v => K v st
  | _,_ => none
 | .indexAddr t x i => (val st x).bind fun a => (val st i).bind fun b => indexAddr cx t a b fun v => K v st
 | .index t x i => (val st x).bind fun a => (val st i).bind fun b => index cx t a b fun v => K v st
 | .extract x i => (val st x).bind fun v => match v with
  | .tup l => (nth l i).bind fun v => K v st
  | _ => none
 | .typeAssert x _ t ok => (val st x).bind fun v => match (cx.TT t).k with
  | .ifc => none
  | k => match k.known with
   | false => none
   | true => assertTo cx t ok v st K
 | .call c => (vals st c.args.toList).bind fun args => match c.callee with
  | .builtin b => builtin cx b c.argTypes.toList args st K
  | .value f => (val st f).bind fun fv => match fv with
   | .fn g caps =>
    let kk : Res U → St U → Option R := fun r st' => match r with
     | .ret v => K v st'
     | .pan v => KP v st'
    match cx.ext g with
    | some s => callX s.1 s.2 (coArgs cx c.argTypes.toList args ++ caps) st kk
    | none => callX true (callR g) (coArgs cx c.argTypes.toList args ++ caps) st kk
   | _ => none
  | _ => none
 | .panic x => (val st x).bind fun v => match v with
  | .iface t v => KP (.iface t v) st
  | _ => none
 | _ => none
/-- The temporary that a guard looks at. -/
def guardTmp (all : Array Oper) : Nat → Option Nat := fun j => (all[j]?).bind (·.dst)
/-- Operations that neither fail nor act: done whether they are wanted or not. -/
def idle (st : St U) : Op → Bool
 | .move _ => true
 | .binOp op _ _ _ _ => match op with
  | .quo | .rem | .shl | .shr => false
  | _ => true
 | .unOp _ _ x => match val st x with
  | some .und => false
  | _ => true
 | .pick _ _ _ => true
 | .extract _ _ => true
 | .field _ _ _ => true
 | .load _ x | .fieldAddr _ x _ => match val st x with
  | some (.ptr _ _) => true
  | some (.rp _) => true
  | _ => false
 | .call c => match c.callee with
  | .builtin .len => true
  | _ => false
 | _ => false
def ungdEnv (d : Nat) (want : Bool) : List (Nat × AVal U) → List (Nat × AVal U)
 | [] => []
 | (a,v) :: r => (a,ungd d want v) :: ungdEnv d want r
def dropGd : List (Nat × AVal U) → List (Nat × AVal U)
 | [] => []
 | (a,v) :: r => match v with
  | .gd _ _ _ _ => (a,.junk) :: dropGd r
  | v => (a,v) :: dropGd r
/-- An operation's result is put; what guards look at is not put again. -/
def putR (st : St U) (dst : Option Nat) (v : AVal U) (K : St U → Option R) : Option R :=
 match dst with
 | none => K st
 | some d => match hasTok d st.gs || !Nat.blt d st.n with
  | true => none
  | false => K { st with env := (d,v) :: st.env }
/-- What a guard's value says: a Bool that is true just where the operation is wanted. -/
def gOf (want : Bool) : AVal U → Option Bool
 | .bool b => match want with
  | true => some b
  | false => some (!b)
 | .gd _ _ g (.bool b) => match want with
  | true => some (g && b)
  | false => some (g && !b)
 | .und => some false
 | _ => none
def ungdChain : Nat → Nat → Bool → List (Nat × AVal U) → List (Nat × AVal U)
 | 0,_,_,env => env
 | n + 1,d,want,env => match lookup d env with
  | some (.gd d' want' _ _) => ungdEnv d want (ungdChain n d' want' env)
  | _ => ungdEnv d want env
/-- By cases on a guard. -/
def force : Nat → Nat → Bool → St U → (Bool → St U → Option R) → Option R
 | 0,_,_,_,_ => none
 | n + 1,d,want,st,K => (lookup d st.env).bind fun v => match v with
  | .bool g =>
   if g = true then K want { st with env := (d,.bool true) :: ungdEnv d true st.env,gs := (d + 1048576) :: st.gs }
   else K (!want) { st with env := (d,.bool false) :: ungdEnv d false st.env,gs := (d + 1048576) :: st.gs }
  | .gd d' want' _ (.bool _) => force n d' want' st fun on st' => match on with
   | true => force n d want st' K
   | false => K false st'
  | .und => K false st
  | _ => none
/-- A guard that is not known yet. -/
def open_ (d : Nat) (st : St U) : Bool :=
 match lookup d st.env with
 | some .und => false
 | _ => !hasTok (d + 1048576) st.gs
def evOps (cx : Cx U R) (callR : FuncId → List (AVal U) → St U → (Res U → St U → Option R) → Option R) (all : Array Oper) :
 List Oper → St U → (Out U → St U → Option R) → Option R
 | [],st,K => match st.gs with
  | [] => K .normal st
  | _ => K .normal { st with env := dropGd st.env,gs := [] }
 | o :: os,st,K =>
  match o.guard with
  | none => exOp cx callR o st
   (fun v st' => match isGd v with
    | true => none
    | false => putR st' o.dst (co (cx.TT o.type).k v) fun st' => evOps cx callR all os st' K)
   (fun v st' => K (.pan v) st')
  | some (j,want) => (guardTmp all j).bind fun d => match idle { st with env := ungdChain 8 d want st.env } o.op && open_ d st with
   | true => (lookup d st.env).bind fun gv => (gOf want gv).bind fun g =>
    exOp cx callR o { st with env := ungdChain 8 d want st.env }
     (fun v st' => match isGd v || (match o.dst with | some x => Nat.beq x d | none => false) with
      | true => none
      | false => putR { st' with env := st.env } o.dst (.gd d want g (co (cx.TT o.type).k v)) fun st' => evOps cx callR all os { st' with gs := d :: st'.gs } K)
     (fun _ _ => none)
   | false => force 8 d want st fun on st => match on with
    | true => exOp cx callR o st
     (fun v st' => match isGd v with
      | true => none
      | false => putR st' o.dst (co (cx.TT o.type).k v) fun st' => evOps cx callR all os st' K)
     (fun v st' => K (.pan v) st')
    | false => putR st o.dst .und fun st' => evOps cx callR all os st' K
/-! ### regions that draw their order -/
def predsOf (o : Oper) : List Nat := (o.after.toList.filter (Region.binds .any)).map (·.on)
def subOf : List Nat → List Nat → Bool
 | [],_ => true
 | a :: r,m => hasTok a m && subOf r m
def numberedOps : Nat → List Oper → List (Nat × Oper)
 | _,[] => []
 | i,o :: r => (i,o) :: numberedOps (i + 1) r
/-- What one operation writes, another one looks at, or writes, only where one of them waits for the other. -/
def apartOne (k : Nat) (dst : Option Nat) (looks preds : List Nat) : List (Nat × Oper) → Bool
 | [] => true
 | (j,oj) :: r => (match Nat.beq j k with
  | true => true
  | false => match oj.dst with
   | none => true
   | some d => (match dst with | some e => !Nat.beq d e | none => true) && (!hasTok d looks || (hasTok j preds || hasTok k (predsOf oj)))) && apartOne k dst looks preds r
def apartAll (ops : Array Oper) (all : List (Nat × Oper)) : List (Nat × Oper) → Bool
 | [] => true
 | (k,o) :: r => apartOne k o.dst (o.looksAt ops) (predsOf o) all && apartAll ops all r
/-- Operations that leave the evaluator's memory as it is. -/
def reads (cx : Cx U R) : Op → Bool
 | .move _ | .assign _ | .pick _ _ _ | .nilCheck _ | .binOp _ _ _ _ _ | .unOp _ _ _ | .fieldAddr _ _ _ | .field _ _ _ | .indexAddr _ _ _ | .index _ _ _ | .extract _ _
 | .build _ _ | .buildSlice _ _ _ | .load _ _ | .makeInterface _ _ | .makeFunc _ _ _ => true
 | .convert _ d _ => match (cx.TT d).k with
  | .sl _ _ => false
  | _ => true
 | .slice t _ _ _ _ => match (cx.TT t).k with
  | .arr _ _ _ => false
  | _ => true
 | .call c => match c.callee with
  | .builtin b => match b with
   | .len | .min | .max => true
   | _ => false
  | _ => false
 | _ => false
def cxV (cx : Cx U R) : Cx U (AVal U × St U) := { TT := cx.TT,FT := fun _ => none,ext := fun _ => none,live := fun _ _ => [],C := cx.C,eqs := cx.eqs }
def rdOp (cx : Cx U R) (o : Oper) (st : St U) : Option (AVal U × St U) := exOp (cxV cx) (fun _ _ _ _ => none) o st (fun v s => some (v,s)) (fun _ _ => none)
def restrict : List Nat → List (Nat × AVal U) → List (Nat × AVal U)
 | [],_ => []
 | t :: r,env => match lookup t env with
  | some v => (t,v) :: restrict r env
  | none => restrict r env
def firstRead (cx : Cx U R) (L : List Nat) : List (Nat × Oper) → Option (Nat × Oper)
 | [] => none
 | (i,o) :: r => match reads cx o.op && subOf (predsOf o) L with
  | true => some (i,o)
  | false => firstRead cx L r
def readyOnes (L : List Nat) : List (Nat × Oper) → List (Nat × Oper)
 | [] => []
 | (i,o) :: r => match subOf (predsOf o) L with
  | true => (i,o) :: readyOnes L r
  | false => readyOnes L r
def delOp (i : Nat) : List (Nat × Oper) → List (Nat × Oper)
 | [] => []
 | (j,o) :: r => match Nat.beq j i with
  | true => delOp i r
  | false => (j,o) :: delOp i r
def loadBox (st : St U) (o : Oper) : Option Nat :=
 match o.op with
 | .load _ x => match val st x with
  | some (.ptr b _) => some b
  | _ => none
 | _ => none
def hides (preds : List Nat) : List (Nat × Nat) → List Nat
 | [] => []
 | (k,b) :: r => match hasTok k preds || hasTok b (hides preds r) with
  | true => hides preds r
  | false => b :: hides preds r
def hideBox : List Nat → List (List (AVal U)) → List (List (AVal U))
 | [],bx => bx
 | b :: r,bx => hideBox r (bx.set b [])
def showBox (orig : List (List (AVal U))) : List Nat → List (List (AVal U)) → Option (List (List (AVal U)))
 | [],bx => some bx
 | b :: r,bx => match nth orig b,nth bx b with
  | some cs,some [] => showBox orig r (bx.set b cs)
  | _,_ => none
def guardOn (ops : Array Oper) (o : Oper) (st : St U) (F : Bool → St U → Option R) : Option R :=
 match o.guard with
 | none => F true st
 | some (j,want) => (guardTmp ops j).bind fun d => (lookup d st.env).bind fun v => match v with
  | .bool g => if g = true then F want { st with env := (d,.bool true) :: st.env } else F (!want) { st with env := (d,.bool false) :: st.env }
  | .und => F false st
  | _ => none
def evDrawn (cx : Cx U R) (callR : FuncId → List (AVal U) → St U → (Res U → St U → Option R) → Option R) (ops : Array Oper) :
 Nat → List (Nat × Oper) → List Nat → List (Nat × Nat) → St U → (Out U → St U → Option R) → Option R
 | 0,todo,_,_,st,K => match todo with
  | [] => K .normal st
  | _ => none
 | n + 1,todo,L,loads,st,K => match todo with
  | [] => K .normal st
  | _ => match firstRead cx L todo with
   | some (i,o) => guardOn ops o st fun on st => match on with
    | true => exOp cx callR o { st with env := restrict (o.looksAt ops) st.env } (fun v _ => match isGd v with
     | true => none
     | false => putR st o.dst (co (cx.TT o.type).k v) fun st' => evDrawn cx callR ops n (delOp i todo) (i :: L) (match loadBox st o with | some b => (i,b) :: loads | none => loads) st' K) (fun _ _ => none)
    | false => putR st o.dst .und fun st' => evDrawn cx callR ops n (delOp i todo) (i :: L) loads st' K
   | none => match readyOnes L todo with
    | [(i,o)] => guardOn ops o st fun on st => match on with
     | true => exOp cx callR o { st with env := restrict (o.looksAt ops) st.env,box := hideBox (hides (predsOf o) loads) st.box }
      (fun v st' => match isGd v with
       | true => none
       | false => (showBox st.box (hides (predsOf o) loads) st'.box).bind fun bx =>
        putR { st' with env := st.env,box := bx } o.dst (co (cx.TT o.type).k v) fun st' => evDrawn cx callR ops n (delOp i todo) (i :: L) loads st' K)
      (fun v st' => (showBox st.box (hides (predsOf o) loads) st'.box).bind fun bx => K (.pan v) { st' with env := [],box := bx })
     | false => putR st o.dst .und fun st' => evDrawn cx callR ops n (delOp i todo) (i :: L) loads st' K
    | _ => none
/-- A region that draws its order. -/
def evRegion (cx : Cx U R) (callR : FuncId → List (AVal U) → St U → (Res U → St U → Option R) → Option R) (ops : Array Oper) (st : St U) (K : Out U → St U → Option R) : Option R :=
 match st.gs with
 | [] => match apartAll ops (numberedOps 0 ops.toList) (numberedOps 0 ops.toList) with
  | true => evDrawn cx callR ops ops.size (numberedOps 0 ops.toList) [] [] st K
  | false => none
 | _ => none
/-! ### the head of a loop -/
def firstRegion : Code → Option Nat
 | .region id _ _ => some id
 | .seq a b => match firstRegion a with
  | some i => some i
  | none => firstRegion b
 | .cond _ a b => match firstRegion a with
  | some i => some i
  | none => firstRegion b
 | .block _ b => firstRegion b
 | .loop b => firstRegion b
 | _ => none
structure Re where
 next : Nat
 map : List (Nat × Nat)
def findTok (i : Nat) : List (Nat × Nat) → Option Nat
 | [] => none
 | (a,b) :: r => match Nat.beq a i with
  | true => some b
  | false => findTok i r
mutual
def retok (bt : Nat) (live : List Nat) (keep : Bool) : AVal U → Re → AVal U × Re
 | .sl t l p,re => match p,keep with
  | .no,_ => (.sl t l .no,re)
  | .nil,_ => (.sl t l .nil,re)
  | .nn,_ => (.sl t l .nn,re)
  | .em,_ => (.sl t l .no,re)
  | .exact,true => (.sl t l (.tok re.next),{ re with next := re.next + 1 })
  | .exact,false => (.sl t l .no,re)
  | .tok i,keep => match Nat.ble bt i with
   | false => (.sl t l (.tok i),re)
   | true => match keep && hasTok i live with
    | false => (.sl t l .no,re)
    | true => match findTok i re.map with
     | some j => (.sl t l (.tok j),re)
     | none => (.sl t l (.tok re.next),{ next := re.next + 1,map := (i,re.next) :: re.map })
 | .agg cs,re => match retoks bt live keep cs re with | (l,re) => (.agg l,re)
 | .tup cs,re => match retoks bt live keep cs re with | (l,re) => (.tup l,re)
 | .rp cs,re => match retoks bt live keep cs re with | (l,re) => (.rp l,re)
 | .fn f cs,re => match retoks bt live keep cs re with | (l,re) => (.fn f l,re)
 | .iface t v,re => match retok bt live keep v re with | (l,re) => (.iface t l,re)
 | v,re => (v,re)
def retoks (bt : Nat) (live : List Nat) (keep : Bool) : List (AVal U) → Re → List (AVal U) × Re
 | [],re => ([],re)
 | v :: r,re => match retok bt live keep v re with
  | (v,re) => match retoks bt live keep r re with
   | (r,re) => (v :: r,re)
end
def retokBoxes (bt : Nat) (live : List Nat) : List (List (AVal U)) → Re → List (List (AVal U)) × Re
 | [],re => ([],re)
 | b :: r,re => match retoks bt live true b re with
  | (b,re) => match retokBoxes bt live r re with
   | (r,re) => (b :: r,re)
def keepEnv (bt : Nat) (live : List Nat) (nb : Nat) (env : List (Nat × AVal U)) : List (Nat × Bool) → Re → Option (List (Nat × AVal U) × Re)
 | [],re => some ([],re)
 | (t,keep) :: r,re => (lookup t env).bind fun v => match ptrsUnder nb v with
  | true => match retok bt live keep v re with
   | (v,re) => (keepEnv bt live nb env r re).bind fun x => some ((t,v) :: x.1,x.2)
  | false => none
def below (bt : Nat) : List Nat → List Nat
 | [] => []
 | a :: r => match Nat.blt a bt with
  | true => a :: below bt r
  | false => below bt r
/-- The state at a loop's head: what lives, in plain order. -/
def norm (lv : List (Nat × Bool)) (nb : Nat) (st : St U) : Option (St U) :=
 (keepEnv st.bt st.live nb st.env lv ⟨st.bt,[]⟩).bind fun x =>
  match ptrsBoxes nb (st.box.take nb) && Nat.ble st.bb nb && Nat.ble nb st.box.length with
  | true => match retokBoxes st.bt st.live (st.box.take nb) x.2 with
   | (bx,re) => some { st with env := x.1,box := bx,live := upto st.bt (re.next - st.bt) ++ below st.bt st.live,nt := re.next }
  | false => none
/-- Operations that only compute. -/
def calmOp : Op → Bool
 | .move _ | .assign _ | .unOp _ _ _ | .pick _ _ _ => true
 | .binOp op _ _ _ _ => match op with
  | .quo | .rem | .shl | .shr => false
  | _ => true
 | .load _ _ | .fieldAddr _ _ _ | .field _ _ _ | .extract _ _ => true
 | .call c => match c.callee with
  | .builtin .len => true
  | _ => false
 | _ => false
def calmOps : List Oper → Bool
 | [] => true
 | o :: r => (match o.guard with | some _ => false | none => calmOp o.op) && calmOps r
/-- Code that only computes: one temporary of it is looked at behind. -/
def calm : Code → Bool
 | .skip => true
 | .region _ ops draw => match draw with
  | true => false
  | false => calmOps ops.toList
 | .seq a b => calm a && calm b
 | .cond _ a b => calm a && calm b
 | _ => false
def dsts : List Oper → List Nat
 | [] => []
 | o :: r => match o.dst with
  | some d => d :: dsts r
  | none => dsts r
/-- The temporaries that code may put. -/
def puts : Code → List Nat
 | .region _ ops _ => dsts ops.toList
 | .seq a b => puts a ++ puts b
 | .cond c a b => match c with
  | .tmp d => d :: (puts a ++ puts b)
  | _ => puts a ++ puts b
 | _ => []
/-- Code that computes one temporary anew. -/
def calmTo (d : Nat) (c : Code) : Bool := calm c && hasTok d (puts c)
def junkEnv : List Nat → List (Nat × AVal U) → List (Nat × AVal U)
 | [],env => env
 | a :: r,env => (a,.junk) :: junkEnv r env
def isSkip : Code → Bool
 | .skip => true
 | _ => false
def evCode (cx : Cx U R) (callR : FuncId → List (AVal U) → St U → (Res U → St U → Option R) → Option R)
 (loopR : Nat → List (Nat × Bool) → Code → (Out U → St U → Option R) → St U → Option R) : Code → St U → (Out U → St U → Option R) → Option R
 | .skip,st,K => K .normal st
 | .region _ ops draw,st,K => match draw with
  | true => evRegion cx callR ops st K
  | false => evOps cx callR ops ops.toList st K
 | .seq a b,st,K => evCode cx callR loopR a st fun o st' => match o with
  | .normal => evCode cx callR loopR b st' K
  | .exit i => K (.exit i) st'
  | .ret => K .ret st'
  | .pan v => K (.pan v) st'
 | .cond c a b,st,K => (val st c).bind fun v => match v with
  | .bool t => match c with
   | .tmp d => match isSkip a && calmTo d b with
    | true => evCode cx callR loopR b st fun o st' => match o with
     | .normal => (lookup d st'.env).bind fun v => match v with
      | .bool t' => K .normal { st' with env := (d,.bool (if t = true then true else t')) :: junkEnv (puts b) st'.env }
      | _ => none
     | _ => none
    | false => match calmTo d a && isSkip b with
     | true => evCode cx callR loopR a st fun o st' => match o with
      | .normal => (lookup d st'.env).bind fun v => match v with
       | .bool t' => K .normal { st' with env := (d,.bool (if t = true then t' else false)) :: junkEnv (puts a) st'.env }
       | _ => none
      | _ => none
     | false => if t = true then evCode cx callR loopR a { st with env := (d,.bool true) :: st.env } K else evCode cx callR loopR b { st with env := (d,.bool false) :: st.env } K
   | _ => if t = true then evCode cx callR loopR a st K else evCode cx callR loopR b st K
  | _ => none
 | .block id b,st,K => evCode cx callR loopR b st fun o st' => match o with
  | .normal => K .normal st'
  | .exit i => match Nat.beq i id with
   | true => K .normal st'
   | false => K (.exit i) st'
  | .ret => K .ret st'
  | .pan v => K (.pan v) st'
 | .loop b,st,K => match cx.live st.fn ((firstRegion b).getD 0) with
  | lv => (norm lv st.box.length st).bind fun st' => loopR st.box.length lv b K st'
 | .exit id,st,K => K (.exit id) st
 | .ret,st,K => K .ret st
 | _,_,_ => none
def results (cx : Cx U R) (st : St U) : List ResultVar → Option (List (AVal U))
 | [] => some []
 | .tmp t :: r => (lookup t st.env).bind fun v => (results cx st r).bind fun l => some (v :: l)
 | .cell a t :: r => (lookup a st.env).bind fun p => (at? st p).bind fun cs => (loadAt cx t cs).bind fun v => (results cx st r).bind fun l => some (v :: l)
def oneOr (l : List (AVal U)) : AVal U :=
 match l with
 | [v] => v
 | l => .tup l
def numbered : Nat → List (AVal U) → List (Nat × AVal U)
 | _,[] => []
 | i,v :: r => (i,v) :: numbered (i + 1) r
def back (st st' : St U) : St U := { st' with env := st.env,wb := st.wb,wt := st.wt,bt := st.bt,bb := st.bb,fn := st.fn,gs := st.gs,n := st.n }
def anyGd : List (AVal U) → Bool
 | [] => false
 | v :: r => isGd v || anyGd r
/-- A body that defers a function first: what is ahead, the making of the function, where it is kept, what is behind. -/
def deferOf : Code → Option (Code × Oper × Nat × Code)
 | .seq a (.seq (.region _ ops draw) rest) => match draw,ops.toList with
  | false,[mk,df] => match mk.guard,df.guard,df.dst,df.op with
   | none,none,none,.defer c => match c.callee,c.args.toList with
    | .value (.tmp t),[] => some (a,mk,t,rest)
    | _,_ => none
   | _,_,_,_ => none
  | _,_ => none
 | _ => none
/-- A body that recovers first. -/
def recOf : Code → Option (Array Oper × Nat × Code)
 | .seq (.region _ ops draw) rest => match draw,ops.toList with
  | false,r :: _ => match r.guard,r.dst,r.op with
   | none,some d,.call c => match c.callee,c.args.toList with
    | .builtin .recover,[] => some (ops,d,rest)
    | _,_ => none
   | _,_,_ => none
  | _,_ => none
 | _ => none
/-- A deferred function that recovers: v is what it is told. -/
def runDef (cx : Cx U R) (callR : FuncId → List (AVal U) → St U → (Res U → St U → Option R) → Option R)
 (loopR : Nat → List (Nat × Bool) → Code → (Out U → St U → Option R) → St U → Option R) (g : FuncId) (caps : List (AVal U)) (v : AVal U) (st : St U) (K : St U → Option R) : Option R :=
 (cx.FT g).bind fun fg => fg.body.bind fun c => (recOf c).bind fun x => match anyGd caps,isGd v,fg.results.toList with
  | false,false,[] => putR { st with env := numbered 0 (coArgs cx fg.params.toList caps),bt := st.nt,bb := st.box.length,fn := g,gs := [],n := Nat.max fg.ntmps caps.length } (some x.2.1) v fun s0 =>
   evOps cx callR x.1 x.1.toList.tail s0 fun o s1 => match o with
    | .normal => evCode cx callR loopR x.2.2 s1 fun o s2 => match o with
     | .normal => K (back st s2)
     | .ret => K (back st s2)
     | _ => none
    | _ => none
  | _,_,_ => none
def evBody (cx : Cx U R) (callR : FuncId → List (AVal U) → St U → (Res U → St U → Option R) → Option R)
 (loopR : Nat → List (Nat × Bool) → Code → (Out U → St U → Option R) → St U → Option R)
 (f : FuncId) (args : List (AVal U)) (st : St U) (K : Res U → St U → Option R) : Option R :=
 (cx.FT f).bind fun fn => fn.body.bind fun c => match anyGd args with
  | true => none
  | false => match deferOf c with
   | none => evCode cx callR loopR c { st with env := numbered 0 (coArgs cx fn.params.toList args),bt := st.nt,bb := st.box.length,fn := f,gs := [],n := Nat.max fn.ntmps args.length } fun o st' => match o with
    | .normal => (results cx st' fn.results.toList).bind fun l => K (.ret (oneOr l)) (back st st')
    | .ret => (results cx st' fn.results.toList).bind fun l => K (.ret (oneOr l)) (back st st')
    | .pan v => K (.pan v) (back st st')
    | .exit _ => none
   | some x => evCode cx callR loopR x.1 { st with env := numbered 0 (coArgs cx fn.params.toList args),bt := st.nt,bb := st.box.length,fn := f,gs := [],n := Nat.max fn.ntmps args.length } fun o st1 => match o with
    | .normal => exOp cx callR x.2.1 st1 (fun v st2 => match isGd v with
     | true => none
     | false => putR st2 x.2.1.dst (co (cx.TT x.2.1.type).k v) fun st3 => (lookup x.2.2.1 st3.env).bind fun fv => match fv with
      | .fn g caps => evCode cx callR loopR x.2.2.2 { st3 with bb := st3.box.length,bt := st3.nt } fun o st4 => match o with
       | .normal => runDef cx callR loopR g caps .nili st4 fun st5 => (results cx st5 fn.results.toList).bind fun l => K (.ret (oneOr l)) (back st st5)
       | .ret => runDef cx callR loopR g caps .nili st4 fun st5 => (results cx st5 fn.results.toList).bind fun l => K (.ret (oneOr l)) (back st st5)
       | .pan v => runDef cx callR loopR g caps v st4 fun st5 => (results cx st5 fn.results.toList).bind fun l => K (.ret (oneOr l)) (back st st5)
       | .exit _ => none
      | _ => none) (fun _ _ => none)
    | _ => none
def loopStep (cx : Cx U R) (callR : FuncId → List (AVal U) → St U → (Res U → St U → Option R) → Option R)
 (loopR : Nat → List (Nat × Bool) → Code → (Out U → St U → Option R) → St U → Option R)
 (nb : Nat) (lv : List (Nat × Bool)) (b : Code) (K : Out U → St U → Option R) (rec : St U → Option R) (st : St U) : Option R :=
 evCode cx callR loopR b st fun o st' => match o with
  | .normal => (norm lv nb st').bind rec
  | .exit i => K (.exit i) st'
  | .ret => K .ret st'
  | .pan v => K (.pan v) st'
/-- What loops do, with so many rounds at most. -/
def loopF (cx : Cx U R) (callR : FuncId → List (AVal U) → St U → (Res U → St U → Option R) → Option R) : Nat → Nat → List (Nat × Bool) → Code → (Out U → St U → Option R) → St U → Option R
 | 0 => fun _ _ _ _ _ => none
 | n + 1 => fun nb lv b K => loopStep cx callR (loopF cx callR n) nb lv b K (loopF cx callR n nb lv b K)
/-- A function. -/
def fnF (cx : Cx U R) (callR : FuncId → List (AVal U) → St U → (Res U → St U → Option R) → Option R) (n : Nat) (f : FuncId) (args : List (AVal U)) (st : St U) (K : Res U → St U → Option R) : Option R :=
 evBody cx callR (loopF cx callR n) f args st K
/-- No calls but those that are known. -/
def noCalls : FuncId → List (AVal U) → St U → (Res U → St U → Option R) → Option R := fun _ _ _ _ => none
/-! ### places of loops -/
def siteC : Code → List Nat → Option Code
 | .seq a _,0 :: p => siteC a p
 | .seq _ b,_ :: p => siteC b p
 | .cond _ a _,0 :: p => siteC a p
 | .cond _ _ b,_ :: p => siteC b p
 | .block _ b,_ :: p => siteC b p
 | .loop b,[] => some b
 | .loop b,_ :: p => siteC b p
 | _,_ => none
/-- What follows at a place of a code; of the loops around it: their numbers, and the rounds that are left. -/
def siteK (cx : Cx U R) (callR : FuncId → List (AVal U) → St U → (Res U → St U → Option R) → Option R) : Nat → List (Nat × List (Nat × Bool) × Nat) → Code → List Nat → (Out U → St U → Option R) → Out U → St U → Option R
 | n,l,.seq a b,0 :: p,K => siteK cx callR n l a p fun o st' => match o with
  | .normal => evCode cx callR (loopF cx callR n) b st' K
  | .exit i => K (.exit i) st'
  | .ret => K .ret st'
  | .pan v => K (.pan v) st'
 | n,l,.seq _ b,_ :: p,K => siteK cx callR n l b p K
 | n,l,.cond _ a _,0 :: p,K => siteK cx callR n l a p K
 | n,l,.cond _ _ b,_ :: p,K => siteK cx callR n l b p K
 | n,l,.block id b,_ :: p,K => siteK cx callR n l b p fun o st' => match o with
  | .normal => K .normal st'
  | .exit i => match Nat.beq i id with
   | true => K .normal st'
   | false => K (.exit i) st'
  | .ret => K .ret st'
  | .pan v => K (.pan v) st'
 | _,(nb,lv,m) :: l,.loop b,_ :: p,K => siteK cx callR m l b p fun o st' => match o with
  | .normal => (norm lv nb st').bind (loopF cx callR m nb lv b K)
  | .exit i => K (.exit i) st'
  | .ret => K .ret st'
  | .pan v => K (.pan v) st'
 | _,_,_,_,K => K
/-- What follows a function's code. -/
def bodyK (cx : Cx U R) (fn : Func) (st : St U) (K : Res U → St U → Option R) : Out U → St U → Option R := fun o st' => match o with
 | .normal => (results cx st' fn.results.toList).bind fun l => K (.ret (oneOr l)) (back st st')
 | .ret => (results cx st' fn.results.toList).bind fun l => K (.ret (oneOr l)) (back st st')
 | .pan v => K (.pan v) (back st st')
 | .exit _ => none
/-- What follows a call. -/
def callK (kp : Bool) (bs ts : List Nat) (st : St U) (K : Res U → St U → Option R) : Res U → St U → Option R := fun res st' => (returnTo kp bs ts st st' res).bind fun x => K x.1 x.2
end
end
end Go.Proofs.YtccfmfifnbnlmaaGreatDoor.Ev
end
section
/- What is laid in the worlds that calls begin with. -/
namespace Go.Proofs.YtccfmfifnbnlmaaGreatDoor.Ev
open Go
def Assumed (w : World) : Prop := (Lib.Utf8Tabs 2 3 w) ∧ w.ShapedOpen Tryz.prog
end Go.Proofs.YtccfmfifnbnlmaaGreatDoor.Ev
end
section
/- What the evaluator's values say of the memory: the relation, and how it stands while memory is made and written. -/
set_option linter.unusedVariables false
set_option linter.unusedSimpArgs false
namespace Go.Proofs.YtccfmfifnbnlmaaGreatDoor.Ev
open Go
/-- To whom a cell belongs. -/
inductive Own where
 | out
 | imm (v : Value)
 | box (b : Nat)
 | spare (t : Nat)
 | hid (v : Value)
structure Gh where
 own : Nat → Nat → Own
 β : Nat → Option (Nat × Nat)
 τ : Nat → Option (Option (Nat × Nat × Nat))
 lo : Nat
def Imm (g : Gh) (blk off : Nat) (vs : List Value) : Prop := ∀ (j : Nat) (v : Value),vs[j]? = some v → g.own blk (off + j) = .imm v
section
variable {U : Nat → Type}
def cellsAll (C : Codec U) (t : Ty) (l : List (t.den U)) : List (AVal U) := l.flatMap (flat C t)
def PermOK (g : Gh) (s : Option (Nat × Nat × Nat)) (len cap : Nat) : Perm → Prop
 | .no => True
 | .exact => cap = len ∧ (len = 0 ∨ ∀ b,s = some b → g.lo ≤ b.1)
 | .nil => False
 | .nn => True
 | .em => 0 < len
 | .tok i => g.τ i = some s ∨ cap = len
mutual
inductive RelV (C : Codec U) (g : Gh) : AVal U → Value → Prop
 | junk (v : Value) : RelV C g .junk v
 | und : RelV C g .und undef
 | bool (b : Bool) : RelV C g (.bool b) (.bool b)
 | int (k : IntKind) (n : Int) : RelV C g (.int k n) (.int k n)
 | str (s : ByteArray) : RelV C g (.str s) (.string s)
 | nilp : RelV C g .nilp (.pointer none)
 | nili : RelV C g .nili .nilIface
 | nilf : RelV C g .nilf .nilFunc
 | nils : RelV C g .nils (.slice none 0 0)
 | ptr {b off blk base : Nat} : g.β b = some (blk,base) → RelV C g (.ptr b off) (.pointer (some ⟨blk,base + off,none⟩))
 | rp {cs : List (AVal U)} {vs : List Value} {blk off : Nat} : RelVs C g cs vs → Imm g blk off vs → RelV C g (.rp cs) (.pointer (some ⟨blk,off,none⟩))
 | sl0 {t : Ty} {p : Perm} (hz : p.zer = true) : RelV C g (.sl t [] p) (.slice none 0 0)
 | sle {t : Ty} {p : Perm} {a : Addr} (hz : p.som = true) : RelV C g (.sl t [] p) (.slice (some a) 0 0)
 | sl {t : Ty} {l : List (t.den U)} {p : Perm} {blk off cap : Nat} {vs : List Value} : RelVs C g (cellsAll C t l) vs → Imm g blk off vs → l.length ≤ cap →
  PermOK g (some (blk,off + l.length * width C t,off + cap * width C t)) l.length cap p → RelV C g (.sl t l p) (.slice (some ⟨blk,off,none⟩) l.length cap)
 | agg {cs : List (AVal U)} {vs : List Value} : RelVs C g cs vs → RelV C g (.agg cs) (.agg vs.toArray)
 | tup {cs : List (AVal U)} {vs : List Value} : RelVs C g cs vs → RelV C g (.tup cs) (.tuple vs.toArray)
 | iface {t : TypeId} {v : AVal U} {c : Value} : RelV C g v c → RelV C g (.iface t v) (.iface t c)
 | fn {f : FuncId} {cs : List (AVal U)} {vs : List Value} : RelVs C g cs vs → RelV C g (.fn f cs) (.func (.func f) #[] vs.toArray)
 | gd {d : Nat} {want b : Bool} {v : AVal U} {c : Value} : (b = true → RelV C g v c) → (b = false → c = undef) → RelV C g (.gd d want b v) c
inductive RelVs (C : Codec U) (g : Gh) : List (AVal U) → List Value → Prop
 | nil : RelVs C g [] []
 | cons {v : AVal U} {c : Value} {vs : List (AVal U)} {cs : List Value} : RelV C g v c → RelVs C g vs cs → RelVs C g (v :: vs) (c :: cs)
end
variable {C : Codec U} {g g' : Gh}
/-- What holds stays so, as far as values speak of it. -/
structure LeV (g g' : Gh) : Prop where
 imm : ∀ b o v,g.own b o = .imm v → g'.own b o = .imm v
 β : ∀ b x,g.β b = some x → g'.β b = some x
 τ : ∀ i s,g.τ i = some s → g'.τ i = some s
 lo : g'.lo = g.lo
/-- What holds stays so. -/
structure Le (g g' : Gh) : Prop where
 imm : ∀ b o v,g.own b o = .imm v → g'.own b o = .imm v
 β : ∀ b x,g.β b = some x → g'.β b = some x
 τ : ∀ i s,g.τ i = some s → g'.τ i = some s
 hid : ∀ b o v,g.own b o = .hid v → g'.own b o = .hid v
 lo : g'.lo = g.lo
theorem Le.refl (g : Gh) : Le g g := ⟨fun _ _ _ h => h,fun _ _ h => h,fun _ _ h => h,fun _ _ _ h => h,rfl⟩
theorem Le.trans {a b c : Gh} (h : Le a b) (k : Le b c) : Le a c :=
 ⟨fun _ _ _ x => k.imm _ _ _ (h.imm _ _ _ x),fun _ _ x => k.β _ _ (h.β _ _ x),fun _ _ x => k.τ _ _ (h.τ _ _ x),fun _ _ _ x => k.hid _ _ _ (h.hid _ _ _ x),k.lo.trans h.lo⟩
theorem Le.v (h : Le g g') : LeV g g' := ⟨h.imm,h.β,h.τ,h.lo⟩
theorem Imm.monoV (h : LeV g g') {blk off : Nat} {vs : List Value} (hi : Imm g blk off vs) : Imm g' blk off vs := fun j v hv => h.imm _ _ _ (hi j v hv)
theorem Imm.mono (h : Le g g') {blk off : Nat} {vs : List Value} (hi : Imm g blk off vs) : Imm g' blk off vs := hi.monoV h.v
theorem PermOK.mono (h : LeV g g') {s : Option (Nat × Nat × Nat)} {len cap : Nat} : ∀ {p : Perm},PermOK g s len cap p → PermOK g' s len cap p
 | .no,_ => trivial
 | .exact,hp => ⟨hp.1,hp.2.imp id fun q b e => by rw [h.lo]; exact q b e⟩
 | .nil,hp => hp
 | .nn,hp => hp
 | .em,hp => hp
 | .tok i,hp => hp.imp (h.τ _ _) id
mutual
theorem RelV.monoV (h : LeV g g') : ∀ {v : AVal U} {c : Value},RelV C g v c → RelV C g' v c
 | _,_,.junk v => .junk v
 | _,_,.und => .und
 | _,_,.bool b => .bool b
 | _,_,.int k n => .int k n
 | _,_,.str s => .str s
 | _,_,.nilp => .nilp
 | _,_,.nili => .nili
 | _,_,.nilf => .nilf
 | _,_,.nils => .nils
 | _,_,.ptr hb => .ptr (h.β _ _ hb)
 | _,_,.rp hs hi => .rp (RelVs.monoV h hs) (hi.monoV h)
 | _,_,.sl0 hz => .sl0 hz
 | _,_,.sle hz => .sle hz
 | _,_,.sl hs hi hl hp => .sl (RelVs.monoV h hs) (hi.monoV h) hl (hp.mono h)
 | _,_,.agg hs => .agg (RelVs.monoV h hs)
 | _,_,.tup hs => .tup (RelVs.monoV h hs)
 | _,_,.iface hv => .iface (RelV.monoV h hv)
 | _,_,.fn hs => .fn (RelVs.monoV h hs)
 | _,_,.gd hv hu => .gd (fun e => RelV.monoV h (hv e)) hu
theorem RelVs.monoV (h : LeV g g') : ∀ {vs : List (AVal U)} {cs : List Value},RelVs C g vs cs → RelVs C g' vs cs
 | _,_,.nil => .nil
 | _,_,.cons hv hs => .cons (RelV.monoV h hv) (RelVs.monoV h hs)
end
theorem RelV.mono (h : Le g g') {v : AVal U} {c : Value} (hv : RelV C g v c) : RelV C g' v c := RelV.monoV h.v hv
theorem RelVs.mono (h : Le g g') {vs : List (AVal U)} {cs : List Value} (hs : RelVs C g vs cs) : RelVs C g' vs cs := RelVs.monoV h.v hs
theorem RelVs.length : ∀ {vs : List (AVal U)} {cs : List Value},RelVs C g vs cs → cs.length = vs.length
 | _,_,.nil => rfl
 | _,_,.cons _ hs => by simp [RelVs.length hs]
theorem RelVs.append : ∀ {vs : List (AVal U)} {cs : List Value} {vs' : List (AVal U)} {cs' : List Value},RelVs C g vs cs → RelVs C g vs' cs' → RelVs C g (vs ++ vs') (cs ++ cs')
 | _,_,_,_,.nil,h' => h'
 | _,_,_,_,.cons hv hs,h' => .cons hv (RelVs.append hs h')
theorem RelVs.split : ∀ {vs vs' : List (AVal U)} {cs : List Value},RelVs C g (vs ++ vs') cs → ∃ a b,cs = a ++ b ∧ RelVs C g vs a ∧ RelVs C g vs' b
 | [],_,cs,h => ⟨[],cs,rfl,.nil,h⟩
 | _ :: _,_,_,.cons hv hs => by
  obtain ⟨a,b,rfl,ha,hb⟩ := RelVs.split hs
  exact ⟨_ :: a,b,rfl,.cons hv ha,hb⟩
theorem RelVs.drop : ∀ {vs : List (AVal U)} {cs : List Value} (n : Nat),RelVs C g vs cs → RelVs C g (vs.drop n) (cs.drop n)
 | _,_,0,h => h
 | _,_,_ + 1,.nil => .nil
 | _,_,n + 1,.cons _ hs => RelVs.drop n hs
theorem RelVs.take : ∀ {vs : List (AVal U)} {cs : List Value} (n : Nat),RelVs C g vs cs → RelVs C g (vs.take n) (cs.take n)
 | _,_,0,_ => .nil
 | _,_,_ + 1,.nil => .nil
 | _,_,n + 1,.cons hv hs => .cons hv (RelVs.take n hs)
theorem RelVs.nth : ∀ {vs : List (AVal U)} {cs : List Value} {i : Nat} {v : AVal U},RelVs C g vs cs → nth vs i = some v → ∃ c,cs[i]? = some c ∧ RelV C g v c
 | _,_,0,_,.cons hv _,h => by
  obtain rfl : _ = _ := Option.some.inj h
  exact ⟨_,rfl,hv⟩
 | _,_,i + 1,_,.cons _ hs,h => by
  obtain ⟨c,hc,hr⟩ := RelVs.nth hs h
  exact ⟨c,by simpa using hc,hr⟩
theorem RelVs.putAt : ∀ {vs' : List (AVal U)} {cs' : List Value} {vs : List (AVal U)} {cs : List Value} {off : Nat},RelVs C g vs cs → RelVs C g vs' cs' →
 ∃ ds,RelVs C g (putAt vs off vs') ds ∧ ds.length = cs.length ∧ ∀ j,ds[j]? = if off ≤ j ∧ j < off + cs'.length ∧ j < cs.length then cs'[j - off]? else cs[j]?
 | [],_,vs,cs,off,h,.nil => ⟨cs,h,rfl,fun j => by simp; omega⟩
 | v :: r,_,vs,cs,off,h,.cons (c := c) (cs := cr) hv hs => by
  have h1 : ∀ {vs : List (AVal U)} {cs : List Value} (off : Nat),RelVs C g vs cs → RelVs C g (vs.set off v) (cs.set off c) := by
   intro vs cs off h
   induction off generalizing vs cs with
   | zero => cases h with
    | nil => exact .nil
    | cons _ hs => exact .cons hv hs
   | succ n ih => cases h with
    | nil => exact .nil
    | cons hv hs => exact .cons hv (ih hs)
  obtain ⟨ds,hd,hl,hj⟩ := RelVs.putAt (off := off + 1) (h1 off h) hs
  refine ⟨ds,hd,by rw [hl]; simp,fun j => ?_⟩
  rw [hj j]
  simp only [List.length_set,List.getElem?_set,List.length_cons]
  by_cases e : off = j
  · subst e
    simp
    by_cases e2 : off < cs.length
    · simp [e2]
      intro x
      omega
    · simp [e2]
  · by_cases e1 : off + 1 ≤ j ∧ j < off + 1 + cr.length ∧ j < cs.length
    · rw [if_pos e1,if_pos (by omega),show j - off = (j - (off + 1)) + 1 by omega]
      simp
    · rw [if_neg e1,if_neg e,if_neg (by omega)]
theorem RelVs.set : ∀ {vs : List (AVal U)} {cs : List Value} (off : Nat) {v : AVal U} {c : Value},RelVs C g vs cs → RelV C g v c → RelVs C g (vs.set off v) (cs.set off c)
 | _,_,_,_,_,.nil,_ => .nil
 | _,_,0,_,_,.cons _ hs,h => .cons h hs
 | _,_,n + 1,_,_,.cons hv hs,h => .cons hv (RelVs.set n hs h)
theorem RelVs.put : ∀ {vs' : List (AVal U)} {cs' : List Value} {vs : List (AVal U)} {cs : List Value} {off : Nat},RelVs C g vs cs → RelVs C g vs' cs' → RelVs C g (Ev.putAt vs off vs') (Ev.putAt cs off cs')
 | [],_,_,_,_,h,.nil => h
 | _ :: _,_,_,_,off,h,.cons hv hs => RelVs.put (off := off + 1) (RelVs.set off h hv) hs
theorem putAt_length {α : Type} : ∀ (l' l : List α) (off : Nat),(putAt l off l').length = l.length
 | [],_,_ => rfl
 | v :: r,l,off => by rw [putAt,putAt_length r]; simp
theorem nth_get {α : Type} : ∀ (l : List α) (i : Nat),nth l i = l[i]?
 | [],_ => by simp [nth]
 | _ :: _,0 => rfl
 | _ :: r,i + 1 => by simp [nth,nth_get r i]
/-- Below number B the world is as it was, but for cells that might be written. -/
def Kept (S : Nat → Nat → Bool) (w0 w : World) : Prop :=
 ∀ b,b < w0.heap.size → w.heap[b]? = w0.heap[b]? ∨
  ∃ c c' e f,w0.heap[b]? = some (.cells c e f) ∧ w.heap[b]? = some (.cells c' e f) ∧ c'.size = c.size ∧ ∀ o,S b o = false → c'[o]? = c[o]?
/-- Nothing old is written, and what is laid is there; else nothing is said. -/
structure SameBut (S : Nat → Nat → Bool) (w0 w : World) : Prop where
 no : ∀ b o,S b o = false
 laid : Assumed w0
 kept : Kept S w0 w
/-- What is frozen of a block lies behind its cells. -/
def Fz (w : World) (b : Nat) : Prop := ∀ c e lo hi,w.heap[b]? = some (.cells c e (lo,hi)) → lo = hi ∨ c.size ≤ lo
theorem Fz.setCells {w : World} {b : Nat} (h : Fz w b) (blk : Nat) : ∀ (vs : List Value) (o : Nat),Fz (w.setCells blk o vs) b := by
 intro vs
 induction vs generalizing w with
 | nil => intro o; exact h
 | cons v r ih =>
  intro o
  rw [World.setCells]
  refine ih ?_ (o + 1)
  intro c e lo hi q
  simp only [World.setCell] at q
  rw [Array.getElem?_modify] at q
  by_cases e1 : blk = b
  · rw [if_pos e1] at q
    cases e2 : w.heap[b]? with
    | none => rw [e2] at q; cases q
    | some ob =>
     rw [e2] at q
     cases ob with
     | cells c0 e0 f0 =>
      obtain ⟨l0,h0⟩ := f0
      simp only [Option.map_some,Option.isSome_none,Bool.false_eq_true,if_false,Option.some.injEq,Obj.cells.injEq,Prod.mk.injEq] at q
      obtain ⟨rfl,rfl,rfl,rfl⟩ := q
      rw [Array.size_setIfInBounds]
      exact h _ _ _ _ e2
     | _ => simp at q
  · rw [if_neg e1] at q
    exact h _ _ _ _ q
def Own.rest : Own → Bool
 | .out => false
 | .imm _ => false
 | _ => true
structure HInv (C : Codec U) (S : Nat → Nat → Bool) (w0 : World) (bx : List (List (AVal U))) (live : List Nat) (g : Gh) (w : World) : Prop where
 imm : ∀ b o v,g.own b o = .imm v → w.cell? ⟨b,o,none⟩ = some v
 box : ∀ b cs blk base,nth bx b = some cs → g.β b = some (blk,base) → ∃ vs,RelVs C g cs vs ∧ ∀ (j : Nat) (v : Value),vs[j]? = some v →
  g.own blk (base + j) = .box b ∧ w.cell? ⟨blk,base + j,none⟩ = some v ∧ w.frozen? ⟨blk,base + j,none⟩ = false
 live : ∀ i,hasTok i live = true → ∀ blk e c,g.τ i = some (some (blk,e,c)) → ∀ o,e ≤ o → o < c →
  g.own blk o = .spare i ∧ (w.cell? ⟨blk,o,none⟩).isSome = true ∧ w.frozen? ⟨blk,o,none⟩ = false
 fresh : ∀ b o,w.heap.size ≤ b → g.own b o = .out
 size : w0.heap.size ≤ w.heap.size
 os : w.os = w0.os
 tape : w.tape = w0.tape
 output : w.output = w0.output
 old : SameBut S w0 w
 wbox : ∀ b o i,g.own b o = .box i → b < w0.heap.size → S b o = true
 wspare : ∀ b o i,g.own b o = .spare i → b < w0.heap.size → S b o = true
 snap : ∀ b o v,b < w0.heap.size → S b o = false → w0.cell? ⟨b,o,none⟩ = some v → g.own b o = .imm v
 hid : ∀ b o v,g.own b o = .hid v → w.cell? ⟨b,o,none⟩ = some v ∧ w.frozen? ⟨b,o,none⟩ = false
 lo : g.lo = w0.heap.size
 fz : ∀ b o,(g.own b o).rest = true → Fz w b
variable {S : Nat → Nat → Bool} {w0 w w' : World} {bx : List (List (AVal U))} {live : List Nat}
theorem cell_congr {w w' : World} (h : w'.heap = w.heap) (a : Addr) : w'.cell? a = w.cell? a := by simp [World.cell?,h]
theorem frozen_congr {w w' : World} (h : w'.heap = w.heap) (a : Addr) : w'.frozen? a = w.frozen? a := by simp [World.frozen?,h]
/-- A draw turns nothing. -/
theorem HInv.draw (h : HInv C S w0 bx live g w) (hh : w'.heap = w.heap) (ho : w'.os = w.os) (ht : w'.tape = w.tape) (hu : w'.output = w.output) : HInv C S w0 bx live g w' :=
 ⟨fun b o v x => by rw [cell_congr hh]; exact h.imm b o v x,
  fun b cs blk base x y => by
   obtain ⟨vs,hv,hj⟩ := h.box b cs blk base x y
   exact ⟨vs,hv,fun j v q => by rw [cell_congr hh,frozen_congr hh]; exact hj j v q⟩,
  fun i x blk e c y o p q => by rw [cell_congr hh,frozen_congr hh]; exact h.live i x blk e c y o p q,
  fun b o x => h.fresh b o (by rw [hh] at x; exact x),by rw [hh]; exact h.size,ho.trans h.os,ht.trans h.tape,hu.trans h.output,
  ⟨h.old.no,h.old.laid,fun b hb => by rw [hh]; exact h.old.kept b hb⟩,h.wbox,h.wspare,h.snap,fun b o v x => by rw [cell_congr hh,frozen_congr hh]; exact h.hid b o v x,h.lo,fun b o x c e lo hi q => h.fz b o x c e lo hi (by rw [hh] at q; exact q)⟩
theorem alloc_old (w : World) (o : Obj) (i : Nat) (h : i < w.heap.size) : (w.alloc o).heap[i]? = w.heap[i]? := by
 first
  | exact heap_alloc_old w o i h
  | exact heap_alloc_old w o h
theorem cell_alloc_old (w : World) (o : Obj) (a : Addr) (h : a.block < w.heap.size) : (w.alloc o).cell? a = w.cell? a :=
 World.cell?_of_block (alloc_old w o _ h)
theorem frozen_alloc_old (w : World) (o : Obj) (a : Addr) (h : a.block < w.heap.size) : (w.alloc o).frozen? a = w.frozen? a :=
 World.frozen?_of_block (alloc_old w o _ h)
theorem lt_of_cell {w : World} {a : Addr} (h : (w.cell? a).isSome = true) : a.block < w.heap.size := by
 obtain ⟨v,hv⟩ := Option.isSome_iff_exists.1 h
 exact World.block_lt_of_cell? w a hv
theorem cell_alloc_new (w : World) (cs : Array Value) (t : TypeId) (o : Nat) : (w.alloc (.cells cs t)).cell? ⟨w.heap.size,o,none⟩ = cs[o]? := by
 unfold World.cell?
 rw [heap_alloc_new]
 rfl
theorem frozen_alloc_new (w : World) (cs : Array Value) (t : TypeId) (o : Nat) : (w.alloc (.cells cs t)).frozen? ⟨w.heap.size,o,none⟩ = false := by
 unfold World.frozen?
 rw [heap_alloc_new]
 simp
/-- A new row of cells: some unchangeable, some spare, or a box. -/
theorem HInv.alloc (h : HInv C S w0 bx live g w) (cs : Array Value) (t : TypeId) (f : Nat → Own) (β' : Nat → Option (Nat × Nat)) (τ' : Nat → Option (Option (Nat × Nat × Nat)))
 (bx' : List (List (AVal U))) (live' : List Nat)
 (hle : Le g ⟨fun b o => if b = w.heap.size then f o else g.own b o,β',τ',g.lo⟩)
 (himm : ∀ o v,f o = .imm v → cs[o]? = some v)
 (hbox : ∀ b c blk base,nth bx' b = some c → β' b = some (blk,base) → (nth bx b = some c ∧ g.β b = some (blk,base)) ∨
  (blk = w.heap.size ∧ ∃ vs,RelVs C ⟨fun b o => if b = w.heap.size then f o else g.own b o,β',τ',g.lo⟩ c vs ∧ ∀ (j : Nat) (v : Value),vs[j]? = some v → f (base + j) = .box b ∧ cs[base + j]? = some v))
 (hlive : ∀ i,hasTok i live' = true → ∀ blk e c,τ' i = some (some (blk,e,c)) → (hasTok i live = true ∧ g.τ i = some (some (blk,e,c))) ∨
  (blk = w.heap.size ∧ ∀ o,e ≤ o → o < c → f o = .spare i ∧ o < cs.size)) (hhid : ∀ o v,f o ≠ .hid v) :
 HInv C S w0 bx' live' ⟨fun b o => if b = w.heap.size then f o else g.own b o,β',τ',g.lo⟩ (w.alloc (.cells cs t)) := by
 have hsz : (w.alloc (.cells cs t)).heap.size = w.heap.size + 1 := by simp
 refine ⟨?_,?_,?_,?_,?_,h.os,h.tape,h.output,?_,?_,?_,?_,?_,h.lo,?_⟩
 · intro b o v hv
   dsimp only at hv
   by_cases e : b = w.heap.size
   · subst e
     rw [if_pos rfl] at hv
     rw [cell_alloc_new]; exact himm o v hv
   · rw [if_neg e] at hv
     have hc := h.imm b o v hv
     rw [cell_alloc_old w _ _ (lt_of_cell (by rw [hc]; rfl))]; exact hc
 · intro b c blk base hb hβ
   rcases hbox b c blk base hb hβ with ⟨h1,h2⟩ | ⟨rfl,vs,hvs,hj⟩
   · obtain ⟨vs,hvs,hj⟩ := h.box b c blk base h1 h2
     refine ⟨vs,RelVs.mono hle hvs,fun j v hv => ?_⟩
     obtain ⟨h3,h4,h5⟩ := hj j v hv
     have hlt : blk < w.heap.size := lt_of_cell (a := ⟨blk,base + j,none⟩) (by rw [h4]; rfl)
     refine ⟨?_,?_,?_⟩
     · show (if blk = w.heap.size then f (base + j) else g.own blk (base + j)) = _
       rw [if_neg (by omega)]; exact h3
     · rw [cell_alloc_old w _ _ hlt]; exact h4
     · rw [frozen_alloc_old w _ _ hlt]; exact h5
   · refine ⟨vs,hvs,fun j v hv => ?_⟩
     obtain ⟨h3,h4⟩ := hj j v hv
     refine ⟨?_,?_,frozen_alloc_new _ _ _ _⟩
     · show (if w.heap.size = w.heap.size then f (base + j) else _) = _
       rw [if_pos rfl]; exact h3
     · rw [cell_alloc_new]; exact h4
 · intro i hi blk e c hτ o h1 h2
   rcases hlive i hi blk e c hτ with ⟨h3,h4⟩ | ⟨rfl,hf⟩
   · obtain ⟨h5,h6,h7⟩ := h.live i h3 blk e c h4 o h1 h2
     have hlt : blk < w.heap.size := lt_of_cell (a := ⟨blk,o,none⟩) h6
     refine ⟨?_,?_,?_⟩
     · show (if blk = w.heap.size then f o else g.own blk o) = _
       rw [if_neg (by omega)]; exact h5
     · rw [cell_alloc_old w _ _ hlt]; exact h6
     · rw [frozen_alloc_old w _ _ hlt]; exact h7
   · obtain ⟨h5,h6⟩ := hf o h1 h2
     refine ⟨?_,?_,frozen_alloc_new _ _ _ _⟩
     · show (if w.heap.size = w.heap.size then f o else _) = _
       rw [if_pos rfl]; exact h5
     · rw [cell_alloc_new]; simp [h6]
 · intro b o hb
   rw [hsz] at hb
   show (if b = w.heap.size then f o else g.own b o) = _
   rw [if_neg (by omega)]
   exact h.fresh b o (by omega)
 · rw [hsz]; have := h.size; omega
 · refine ⟨h.old.no,h.old.laid,?_⟩
   intro b hb
   have hlt : b < w.heap.size := Nat.lt_of_lt_of_le hb h.size
   rw [alloc_old w _ b hlt]
   exact h.old.kept b hb
 · intro b o i hb hlt
   have := h.size
   dsimp only at hb
   rw [if_neg (by omega)] at hb
   exact h.wbox b o i hb hlt
 · intro b o i hb hlt
   have := h.size
   dsimp only at hb
   rw [if_neg (by omega)] at hb
   exact h.wspare b o i hb hlt
 · intro b o v hb hS hc
   have := h.size
   show (if b = w.heap.size then f o else g.own b o) = _
   rw [if_neg (by omega)]
   exact h.snap b o v hb hS hc
 · intro b o v hv
   dsimp only at hv
   by_cases e : b = w.heap.size
   · rw [if_pos e] at hv; exact absurd hv (hhid o v)
   · rw [if_neg e] at hv
     obtain ⟨hc,hf⟩ := h.hid b o v hv
     have hlt : b < w.heap.size := lt_of_cell (a := ⟨b,o,none⟩) (by rw [hc]; rfl)
     rw [cell_alloc_old w _ _ hlt,frozen_alloc_old w _ _ hlt]; exact ⟨hc,hf⟩
 · intro b o hr c e lo hi q
   dsimp only at hr
   by_cases e1 : b = w.heap.size
   · subst e1
     rw [heap_alloc_new] at q
     cases q
     exact .inl rfl
   · rw [if_neg e1] at hr
     have hlt : b < w.heap.size := by
      rcases Nat.lt_or_ge b w.heap.size with h1 | h1
      · exact h1
      · rw [h.fresh b o h1] at hr; cases hr
     rw [alloc_old w _ b hlt] at q
     exact h.fz b o hr c e lo hi q
end
end Go.Proofs.YtccfmfifnbnlmaaGreatDoor.Ev
end
section
/- Writing: boxes, and the spare room behind a slice. -/
set_option linter.unusedVariables false
set_option linter.unusedSimpArgs false
namespace Go.Proofs.YtccfmfifnbnlmaaGreatDoor.Ev
open Go
theorem setCells_size (b : Nat) : ∀ (vs : List Value) (o : Nat) (w : World),(w.setCells b o vs).heap.size = w.heap.size
 | [],_,_ => rfl
 | v :: r,o,w => by rw [World.setCells,setCells_size b r]; simp [World.setCell]
theorem setCells_rest (b : Nat) : ∀ (vs : List Value) (o : Nat) (w : World),(w.setCells b o vs).os = w.os ∧ (w.setCells b o vs).tape = w.tape ∧ (w.setCells b o vs).output = w.output
 | [],_,_ => ⟨rfl,rfl,rfl⟩
 | v :: r,o,w => by rw [World.setCells]; exact setCells_rest b r _ _
theorem SameBut.setCell {S : Nat → Nat → Bool} {w0 w : World} (h : SameBut S w0 w) (b o : Nat) (v : Value) (hS : b < w0.heap.size → S b o = true) : SameBut S w0 (w.setCell ⟨b,o,none⟩ v) := by
 refine ⟨h.no,h.laid,?_⟩
 replace h := h.kept
 intro k hk
 by_cases e : k = b
 · subst e
   have hh : (w.setCell ⟨k,o,none⟩ v).heap[k]? = (w.heap[k]?).map fun
    | .cells c elem frozen => .cells (c.setIfInBounds o v) elem frozen
    | x => x := by
    simp only [World.setCell,Array.getElem?_modify,if_true]
    cases w.heap[k]? with
    | none => rfl
    | some x => cases x <;> rfl
   rcases h k hk with h1 | ⟨c,c',e,f,h1,h2,h3,h4⟩
   · rw [hh,h1]
     cases hx : w0.heap[k]? with
     | none => exact .inl rfl
     | some x =>
      cases x with
      | cells c e f =>
       refine .inr ⟨c,c.setIfInBounds o v,e,f,rfl,rfl,by simp,fun p hp => ?_⟩
       have : o ≠ p := fun q => by rw [q,hp] at hS; exact absurd (hS hk) (by decide)
       rw [Array.getElem?_setIfInBounds_ne this]
      | _ => exact .inl rfl
   · rw [hh,h2]
     refine .inr ⟨c,c'.setIfInBounds o v,e,f,h1,rfl,by simp [h3],fun p hp => ?_⟩
     have : o ≠ p := fun q => by rw [q,hp] at hS; exact absurd (hS hk) (by decide)
     rw [Array.getElem?_setIfInBounds_ne this]
     exact h4 p hp
 · have hh : (w.setCell ⟨b,o,none⟩ v).heap[k]? = w.heap[k]? := by
    simp only [World.setCell,Array.getElem?_modify]
    rw [if_neg (fun q => e q.symm)]
   rcases h k hk with h1 | ⟨c,c',e,f,h1,h2,h3,h4⟩
   · exact .inl (hh.trans h1)
   · exact .inr ⟨c,c',e,f,h1,hh.trans h2,h3,h4⟩
theorem SameBut.setCells {S : Nat → Nat → Bool} {w0 : World} (b : Nat) : ∀ (vs : List Value) (o : Nat) {w : World},SameBut S w0 w → (∀ j,j < vs.length → b < w0.heap.size → S b (o + j) = true) → SameBut S w0 (w.setCells b o vs)
 | [],_,_,h,_ => h
 | v :: r,o,_,h,hS => by
  rw [World.setCells]
  exact SameBut.setCells b r (o + 1) (h.setCell b o v (fun hb => by simpa using hS 0 (by simp) hb))
   (fun j hj hb => by have := hS (j + 1) (by simp; omega) hb; rwa [show o + (j + 1) = o + 1 + j by omega] at this)
section
variable {U : Nat → Type} {C : Codec U} {g g' : Gh} {S : Nat → Nat → Bool} {w0 w w' : World} {bx : List (List (AVal U))} {live : List Nat}
theorem nth_set {α : Type} : ∀ (l : List α) (i j : Nat) (x : α),nth (l.set i x) j = if i = j then (nth l j).map (fun _ => x) else nth l j
 | [],i,j,x => by simp [nth]
 | a :: r,0,0,x => rfl
 | a :: r,0,j + 1,x => by simp [nth]
 | a :: r,i + 1,0,x => by simp [nth]
 | a :: r,i + 1,j + 1,x => by
  simp only [List.set_cons_succ,nth,nth_set r i j x]
  by_cases e : i = j
  · rw [if_pos e,if_pos (by omega)]
  · rw [if_neg e,if_neg (by omega)]
/-- A store into a box. -/
theorem HInv.store (h : HInv C S w0 bx live g w) {b blk base off : Nat} {cs vs' : List (AVal U)} {cs' : List Value} (hb : nth bx b = some cs) (hβ : g.β b = some (blk,base))
 (hv : RelVs C g vs' cs') (hoff : off + vs'.length ≤ cs.length) :
 HInv C S w0 (bx.set b (putAt cs off vs')) live g (w.setCells blk (base + off) cs') ∧ (∀ j,j < cs'.length → (w.cell? ⟨blk,base + off + j,none⟩).isSome = true ∧ w.frozen? ⟨blk,base + off + j,none⟩ = false) := by
 obtain ⟨vs,hvs,hj⟩ := h.box b cs blk base hb hβ
 have hl := RelVs.length hvs
 have hl' := RelVs.length hv
 have hin : ∀ j,j < cs'.length → g.own blk (base + off + j) = .box b ∧ (w.cell? ⟨blk,base + off + j,none⟩).isSome = true ∧ w.frozen? ⟨blk,base + off + j,none⟩ = false := by
  intro j hlt
  obtain ⟨h1,h2,h3⟩ := hj (off + j) (vs[off + j]'(by omega)) (List.getElem?_eq_getElem (by omega))
  rw [← Nat.add_assoc] at h1 h2 h3
  exact ⟨h1,by rw [h2]; rfl,h3⟩
 refine ⟨?_,fun j hlt => (hin j hlt).2⟩
 have hout : ∀ k o,g.own k o ≠ .box b → (w.setCells blk (base + off) cs').cell? ⟨k,o,none⟩ = w.cell? ⟨k,o,none⟩ := by
  intro k o hne
  refine World.cell?_setCells_out _ _ _ _ _ fun e1 _ => ?_
  dsimp only at e1 ⊢
  subst e1
  by_cases hlt : o < base + off
  · exact .inl hlt
  · refine .inr ?_
    by_cases hlt2 : base + off + cs'.length ≤ o
    · exact hlt2
    · exact absurd ((hin (o - (base + off)) (by omega)).1) (by rw [show base + off + (o - (base + off)) = o by omega]; exact hne)
 obtain ⟨r1,r2,r3⟩ := setCells_rest blk cs' (base + off) w
 refine ⟨?_,?_,?_,?_,?_,r1.trans h.os,r2.trans h.tape,r3.trans h.output,?_,h.wbox,h.wspare,h.snap,fun k o v hk => by rw [hout k o (by rw [hk]; exact fun e => by cases e),World.frozen?_setCells]; exact h.hid k o v hk,h.lo,fun k o hk => (h.fz k o hk).setCells _ _ _⟩
 · intro k o v hk
   rw [hout k o (by rw [hk]; exact fun e => by cases e)]
   exact h.imm k o v hk
 · intro b2 c2 blk2 base2 hb2 hβ2
   rw [nth_set] at hb2
   by_cases e : b = b2
   · subst e
     rw [if_pos rfl,hb] at hb2
     obtain rfl : putAt cs off vs' = c2 := Option.some.inj hb2
     obtain ⟨rfl,rfl⟩ : blk = blk2 ∧ base = base2 := by rw [hβ] at hβ2; exact ⟨(Prod.mk.inj (Option.some.inj hβ2)).1,(Prod.mk.inj (Option.some.inj hβ2)).2⟩
     obtain ⟨ds,hd,hdl,hdj⟩ := RelVs.putAt (off := off) hvs hv
     refine ⟨ds,hd,fun j v hjv => ?_⟩
     have hjl : j < ds.length := by
      have := List.getElem?_eq_some_iff.1 hjv
      exact this.1
     obtain ⟨h1,h2,h3⟩ := hj j (vs[j]'(by omega)) (List.getElem?_eq_getElem (by omega))
     refine ⟨h1,?_,by rw [World.frozen?_setCells]; exact h3⟩
     rw [hdj j] at hjv
     by_cases hr : off ≤ j ∧ j < off + cs'.length ∧ j < vs.length
     · rw [if_pos hr] at hjv
       have hlt : j - off < cs'.length := by omega
       have := World.cell?_setCells_in blk cs' (base + off) w (fun i hi => (hin i hi).2.1) (j - off) hlt
       rw [show base + off + (j - off) = base + j by omega] at this
       rw [this]
       rw [List.getElem?_eq_getElem hlt] at hjv
       exact hjv
     · rw [if_neg hr,List.getElem?_eq_getElem (by omega)] at hjv
       rw [World.cell?_setCells_out _ _ _ _ _ (fun _ _ => ?_),h2,← hjv]
       dsimp only
       omega
   · rw [if_neg e] at hb2
     obtain ⟨vs2,hvs2,hj2⟩ := h.box b2 c2 blk2 base2 hb2 hβ2
     refine ⟨vs2,hvs2,fun j v hjv => ?_⟩
     obtain ⟨h1,h2,h3⟩ := hj2 j v hjv
     refine ⟨h1,?_,by rw [World.frozen?_setCells]; exact h3⟩
     rw [hout _ _ (by rw [h1]; exact fun q => e (by cases q; rfl))]
     exact h2
 · intro i hi k e c hτ o h1 h2
   obtain ⟨h3,h4,h5⟩ := h.live i hi k e c hτ o h1 h2
   refine ⟨h3,?_,by rw [World.frozen?_setCells]; exact h5⟩
   rw [hout _ _ (by rw [h3]; exact fun q => by cases q)]
   exact h4
 · intro k o hk
   rw [setCells_size] at hk
   exact h.fresh k o hk
 · rw [setCells_size]; exact h.size
 · exact SameBut.setCells blk cs' (base + off) h.old fun j hj hlt => h.wbox _ _ b (hin j hj).1 hlt
theorem hasTok_del {i j : Nat} : ∀ {l : List Nat},hasTok j (delTok i l) = true → hasTok j l = true
 | [],h => h
 | a :: r,h => by
  unfold delTok at h
  unfold hasTok
  cases e : Nat.beq a i with
  | true =>
   rw [e] at h
   cases e2 : Nat.beq a j with
   | true => rfl
   | false => exact h
  | false =>
   rw [e] at h
   unfold hasTok at h
   cases e2 : Nat.beq a j with
   | true => rfl
   | false => rw [e2] at h; exact hasTok_del h
def Uniq : List Nat → Prop
 | [] => True
 | a :: r => hasTok a r = false ∧ Uniq r
theorem hasTok_del_self {i : Nat} : ∀ {l : List Nat},Uniq l → hasTok i (delTok i l) = false
 | [],_ => rfl
 | a :: r,h => by
  unfold delTok
  cases e : Nat.beq a i with
  | true =>
   have := Nat.eq_of_beq_eq_true e
   subst this
   exact h.1
  | false =>
   dsimp only
   unfold hasTok
   rw [e]
   exact hasTok_del_self h.2
theorem Uniq.del {i : Nat} : ∀ {l : List Nat},Uniq l → Uniq (delTok i l)
 | [],_ => trivial
 | a :: r,h => by
  unfold delTok
  cases e : Nat.beq a i with
  | true => exact h.2
  | false =>
   refine ⟨?_,h.2.del⟩
   cases e2 : hasTok a (delTok i r) with
   | false => rfl
   | true => have h1 := hasTok_del e2; rw [h.1] at h1; cases h1
/-- The ghost where spare cells have been written for good; a new token for what is left. -/
def Gh.spent (g : Gh) (blk e : Nat) (vs : List Value) (i : Nat) (s : Option (Nat × Nat × Nat)) (t : Nat) : Gh :=
 { own := fun b o => if b = blk ∧ e ≤ o ∧ o < e + vs.length then (match vs[o - e]? with | some v => .imm v | none => .out) else
    match g.own b o with
    | .spare t' => if t' = t then .spare i else .spare t'
    | x => x
   β := g.β
   τ := fun j => if j = i then some s else g.τ j
   lo := g.lo }
/-- Spare room is written: a slice's own append. -/
theorem HInv.spend (h : HInv C S w0 bx live g w) {i t blk e c : Nat} {vs : List Value} (hu : Uniq live) (ht : hasTok t live = true) (hτ : g.τ t = some (some (blk,e,c))) (hlen : e + vs.length ≤ c)
 (hi : g.τ i = none) :
 Le g (g.spent blk e vs i (some (blk,e + vs.length,c)) t) ∧
 HInv C S w0 bx (i :: delTok t live) (g.spent blk e vs i (some (blk,e + vs.length,c)) t) (w.setCells blk e vs) ∧
 (∀ j,j < vs.length → (w.cell? ⟨blk,e + j,none⟩).isSome = true ∧ w.frozen? ⟨blk,e + j,none⟩ = false) ∧
 Imm (g.spent blk e vs i (some (blk,e + vs.length,c)) t) blk e vs := by
 have hin : ∀ o,e ≤ o → o < e + vs.length → g.own blk o = .spare t ∧ (w.cell? ⟨blk,o,none⟩).isSome = true ∧ w.frozen? ⟨blk,o,none⟩ = false :=
  fun o h1 h2 => h.live t ht blk e c hτ o h1 (by omega)
 have hle : Le g (g.spent blk e vs i (some (blk,e + vs.length,c)) t) := by
  refine ⟨fun b o v hb => ?_,fun _ _ x => x,fun j s hj => ?_,fun b o v hb => ?_,rfl⟩
  · show (if b = blk ∧ e ≤ o ∧ o < e + vs.length then _ else _) = _
    rw [if_neg (fun q => by have := (hin o q.2.1 q.2.2).1; rw [← q.1,hb] at this; cases this),hb]
  · show (if j = i then _ else _) = _
    rw [if_neg (fun q => by rw [q,hi] at hj; cases hj)]
    exact hj
  · show (if b = blk ∧ e ≤ o ∧ o < e + vs.length then _ else _) = _
    rw [if_neg (fun q => by have := (hin o q.2.1 q.2.2).1; rw [← q.1,hb] at this; cases this),hb]
 have hout : ∀ k o,¬ (k = blk ∧ e ≤ o ∧ o < e + vs.length) → (w.setCells blk e vs).cell? ⟨k,o,none⟩ = w.cell? ⟨k,o,none⟩ := by
  intro k o hne
  refine World.cell?_setCells_out _ _ _ _ _ fun e1 _ => ?_
  dsimp only at e1 ⊢
  omega
 have himm : Imm (g.spent blk e vs i (some (blk,e + vs.length,c)) t) blk e vs := by
  intro j v hv
  have hlt : j < vs.length := (List.getElem?_eq_some_iff.1 hv).1
  show (if blk = blk ∧ e ≤ e + j ∧ e + j < e + vs.length then _ else _) = _
  rw [if_pos ⟨rfl,by omega,by omega⟩,show e + j - e = j by omega,hv]
 obtain ⟨r1,r2,r3⟩ := setCells_rest blk vs e w
 have hfz : ∀ b o,((g.spent blk e vs i (some (blk,e + vs.length,c)) t).own b o).rest = true → Fz (w.setCells blk e vs) b := by
  intro b o hr
  have hr' : Own.rest (if b = blk ∧ e ≤ o ∧ o < e + vs.length then (match vs[o - e]? with | some v => Own.imm v | none => .out) else
   match g.own b o with | .spare t' => if t' = t then .spare i else .spare t' | x => x) = true := hr
  refine (h.fz b o ?_).setCells _ _ _
  split at hr'
  · split at hr' <;> cases hr'
  · cases q : g.own b o <;> rw [q] at hr' <;> first | rfl | (cases hr'; done)
 refine ⟨hle,⟨?_,?_,?_,?_,?_,r1.trans h.os,r2.trans h.tape,r3.trans h.output,?_,?_,?_,?_,?_,h.lo,hfz⟩,fun j hj => (hin (e + j) (by omega) (by omega)).2,himm⟩
 · intro b o v hb
   by_cases q : b = blk ∧ e ≤ o ∧ o < e + vs.length
   · obtain ⟨rfl,h1,h2⟩ := q
     have hlt : o - e < vs.length := by omega
     have := himm (o - e) vs[o - e] (List.getElem?_eq_getElem hlt)
     rw [show e + (o - e) = o by omega,hb] at this
     injection this with this
     have hc := World.cell?_setCells_in b vs e w (fun j hj => (hin (e + j) (by omega) (by omega)).2.1) (o - e) hlt
     rw [show e + (o - e) = o by omega] at hc
     rw [hc,this]
   · rw [hout b o q]
     refine h.imm b o v ?_
     have hb' : (if b = blk ∧ e ≤ o ∧ o < e + vs.length then (match vs[o - e]? with | some v => Own.imm v | none => .out) else
      match g.own b o with
      | .spare t' => if t' = t then .spare i else .spare t'
      | x => x) = .imm v := hb
     rw [if_neg q] at hb'
     cases hx : g.own b o with
     | out => rw [hx] at hb'; exact hb'
     | imm _ => rw [hx] at hb'; exact hb'
     | box _ => rw [hx] at hb'; exact hb'
     | hid _ => rw [hx] at hb'; exact hb'
     | spare t' =>
      rw [hx] at hb'
      dsimp only at hb'
      by_cases q2 : t' = t
      · rw [if_pos q2] at hb'; cases hb'
      · rw [if_neg q2] at hb'; cases hb'
 · intro b cs k base hb hβ
   obtain ⟨us,hus,hj⟩ := h.box b cs k base hb hβ
   refine ⟨us,RelVs.mono hle hus,fun j v hv => ?_⟩
   obtain ⟨h1,h2,h3⟩ := hj j v hv
   have q : ¬ (k = blk ∧ e ≤ base + j ∧ base + j < e + vs.length) := fun q => by have := (hin _ q.2.1 q.2.2).1; rw [← q.1,h1] at this; cases this
   refine ⟨?_,by rw [hout _ _ q]; exact h2,by rw [World.frozen?_setCells]; exact h3⟩
   show (if k = blk ∧ e ≤ base + j ∧ base + j < e + vs.length then _ else _) = _
   rw [if_neg q,h1]
 · intro j hj k e' c' hτ' o h1 h2
   have hτ'' : (if j = i then some (some (blk,e + vs.length,c)) else g.τ j) = some (some (k,e',c')) := hτ'
   by_cases q : j = i
   · rw [if_pos q] at hτ''
     obtain ⟨rfl,rfl,rfl⟩ : blk = k ∧ e + vs.length = e' ∧ c = c' := by
      have := Option.some.inj (Option.some.inj hτ'')
      exact ⟨(Prod.mk.inj this).1,(Prod.mk.inj (Prod.mk.inj this).2).1,(Prod.mk.inj (Prod.mk.inj this).2).2⟩
     obtain ⟨h3,h4,h5⟩ := h.live t ht blk e c hτ o (by omega) h2
     have q3 : ¬ (blk = blk ∧ e ≤ o ∧ o < e + vs.length) := by omega
     refine ⟨?_,by rw [hout _ _ q3]; exact h4,by rw [World.frozen?_setCells]; exact h5⟩
     show (if blk = blk ∧ e ≤ o ∧ o < e + vs.length then _ else _) = _
     rw [if_neg q3,h3]
     dsimp only
     rw [if_pos rfl,q]
   · rw [if_neg q] at hτ''
     have hjl : hasTok j (delTok t live) = true := by
      unfold hasTok at hj
      cases e2 : Nat.beq i j with
      | true => exact absurd (Nat.eq_of_beq_eq_true e2).symm q
      | false => rw [e2] at hj; exact hj
     have hjt : j ≠ t := fun e2 => by rw [e2,hasTok_del_self hu] at hjl; cases hjl
     obtain ⟨h3,h4,h5⟩ := h.live j (hasTok_del hjl) k e' c' hτ'' o h1 h2
     have q3 : ¬ (k = blk ∧ e ≤ o ∧ o < e + vs.length) := fun q3 => by
      have := (hin o q3.2.1 q3.2.2).1
      rw [← q3.1,h3] at this
      injection this with this
      exact hjt this
     refine ⟨?_,by rw [hout _ _ q3]; exact h4,by rw [World.frozen?_setCells]; exact h5⟩
     show (if k = blk ∧ e ≤ o ∧ o < e + vs.length then _ else _) = _
     rw [if_neg q3,h3]
     dsimp only
     rw [if_neg hjt]
 · intro b o hb
   rw [setCells_size] at hb
   have h0 := h.fresh b o hb
   have q : ¬ (b = blk ∧ e ≤ o ∧ o < e + vs.length) := fun q => by have := (hin o q.2.1 q.2.2).1; rw [← q.1,h0] at this; cases this
   show (if b = blk ∧ e ≤ o ∧ o < e + vs.length then _ else _) = _
   rw [if_neg q,h0]
 · rw [setCells_size]; exact h.size
 · exact SameBut.setCells blk vs e h.old fun j hj hlt => h.wspare _ _ t (hin (e + j) (by omega) (by omega)).1 hlt
 · intro b o k hb hlt
   have hb' : (if b = blk ∧ e ≤ o ∧ o < e + vs.length then (match vs[o - e]? with | some v => Own.imm v | none => .out) else
    match g.own b o with
    | .spare t' => if t' = t then .spare i else .spare t'
    | x => x) = .box k := hb
   by_cases q : b = blk ∧ e ≤ o ∧ o < e + vs.length
   · rw [if_pos q] at hb'
     cases hx : vs[o - e]? with
     | none => rw [hx] at hb'; cases hb'
     | some _ => rw [hx] at hb'; cases hb'
   · rw [if_neg q] at hb'
     cases hx : g.own b o with
     | out => rw [hx] at hb'; cases hb'
     | imm _ => rw [hx] at hb'; cases hb'
     | box k' => exact h.wbox b o k' hx hlt
     | hid _ => rw [hx] at hb'; cases hb'
     | spare t' =>
      rw [hx] at hb'
      dsimp only at hb'
      by_cases q2 : t' = t
      · rw [if_pos q2] at hb'; cases hb'
      · rw [if_neg q2] at hb'; cases hb'
 · intro b o k hb hlt
   have hb' : (if b = blk ∧ e ≤ o ∧ o < e + vs.length then (match vs[o - e]? with | some v => Own.imm v | none => .out) else
    match g.own b o with
    | .spare t' => if t' = t then .spare i else .spare t'
    | x => x) = .spare k := hb
   by_cases q : b = blk ∧ e ≤ o ∧ o < e + vs.length
   · rw [if_pos q] at hb'
     cases hx : vs[o - e]? with
     | none => rw [hx] at hb'; cases hb'
     | some _ => rw [hx] at hb'; cases hb'
   · rw [if_neg q] at hb'
     cases hx : g.own b o with
     | out => rw [hx] at hb'; cases hb'
     | imm _ => rw [hx] at hb'; cases hb'
     | box k' => rw [hx] at hb'; cases hb'
     | hid _ => rw [hx] at hb'; cases hb'
     | spare t' => exact h.wspare b o t' hx hlt
 · intro b o v hlt hS hc
   exact hle.imm b o v (h.snap b o v hlt hS hc)
 · intro b o v hb
   have hb' : (if b = blk ∧ e ≤ o ∧ o < e + vs.length then (match vs[o - e]? with | some v => Own.imm v | none => .out) else
    match g.own b o with
    | .spare t' => if t' = t then .spare i else .spare t'
    | x => x) = .hid v := hb
   by_cases q : b = blk ∧ e ≤ o ∧ o < e + vs.length
   · rw [if_pos q] at hb'
     cases hx : vs[o - e]? with
     | none => rw [hx] at hb'; cases hb'
     | some _ => rw [hx] at hb'; cases hb'
   · rw [hout b o q,World.frozen?_setCells]
     rw [if_neg q] at hb'
     cases hx : g.own b o with
     | out => rw [hx] at hb'; cases hb'
     | imm _ => rw [hx] at hb'; cases hb'
     | box k' => rw [hx] at hb'; cases hb'
     | hid u => rw [hx] at hb'; cases hb'; exact h.hid b o v hx
     | spare t' =>
      rw [hx] at hb'
      dsimp only at hb'
      by_cases q2 : t' = t
      · rw [if_pos q2] at hb'; cases hb'
      · rw [if_neg q2] at hb'; cases hb'
end
end Go.Proofs.YtccfmfifnbnlmaaGreatDoor.Ev
end
section
/- What the program's single operations come to, in the evaluator's words. -/
set_option linter.unusedVariables false
set_option linter.unusedSimpArgs false
namespace Go.Proofs.YtccfmfifnbnlmaaGreatDoor.Ev
open Go
section
variable {U : Nat → Type}
def isAggV : Value → Bool
 | .agg _ => true
 | _ => false
structure Info (C : Codec U) (P : Program) (t : TypeId) (i : TInf U) (z : Value) : Prop where
 info : ∃ inf,P.info? t = some inf ∧ inf.size = i.size ∧ inf.bytes = i.bytes ∧ inf.zero = some z
 zero : ∀ g,RelVs C g i.zero z.cells.toList
 len : i.zero.length = i.size
 ag : isAggV z = i.k.agg
def TTOk (C : Codec U) (P : Program) (TT : TypeId → TInf U) (t : TypeId) : Prop :=
 ((TT t).k.known = true → ∃ z,Info C P t (TT t) z) ∧
 match (TT t).k with
 | .bool => P.underlying t = some .bool
 | .int k => P.underlying t = some (.int k)
 | .str => P.underlying t = some .string
 | .st fs => ∃ F : Array Field,P.underlying t = some (.struct F) ∧ F.toList.map (fun f => (f.offset,f.type)) = fs ∧ (F.toList.mapM (fun f => (P.info? f.type).map fun i => (f.offset,i.size))).isSome = true
 | .sl e ty => P.underlying t = some (.slice e) ∧ width C ty = (TT e).size ∧ (TT e).k.known = true ∧ 0 < (TT e).size ∧ 0 < (TT e).bytes ∧ (ty = .int .u8 → P.underlying e = some (.int .u8))
 | .ptr e => P.underlying t = some (.pointer e)
 | .arr n e ty => P.underlying t = some (.array n e) ∧ ∀ y,ty = some y → width C y = (TT e).size ∧ (TT e).k.known = true ∧ 0 < (TT e).size
 | .ifc => ∃ ms,P.underlying t = some (.interface ms)
 | .fn => ∃ a b c,P.underlying t = some (.func a b c)
 | .tup => True
 | .other => True
structure CodecOk (C : Codec U) : Prop where
 unflat : ∀ i cs x rest,C.unflat i cs = some (x,rest) → ∀ g vs,RelVs C g cs vs → ∃ a b,vs = a ++ b ∧ RelVs C g (C.flat i x) a ∧ RelVs C g rest b
 width : ∀ i x,(C.flat i x).length = C.width i
variable {C : Codec U} {P : Program} {TT : TypeId → TInf U} {g g' : Gh} {w w' : World}
theorem run_zero {t : TypeId} {i : TInf U} {z : Value} (h : Info C P t i z) : (zeroValue t).run P w = .ok z w := by
 obtain ⟨inf,h1,_,_,h4⟩ := h.info
 simp [zeroValue,typeInfo,h1,h4]
theorem run_size {t : TypeId} {i : TInf U} {z : Value} (h : Info C P t i z) : (Go.sizeOf t).run P w = .ok i.size w := by
 obtain ⟨inf,h1,h2,_,_⟩ := h.info
 simp [Go.sizeOf,typeInfo,h1,h2]
theorem TTOk.known {t : TypeId} (h : TTOk C P TT t) (hk : (TT t).k.known = true) : ∃ z,Info C P t (TT t) z := h.1 hk
theorem run_agg {t : TypeId} (h : TTOk C P TT t) (hk : (TT t).k.known = true) : (isAgg t).run P w = .ok (TT t).k.agg w := by
 obtain ⟨_,h2⟩ := h
 unfold isAgg
 generalize (TT t).k = k at h2 hk
 cases k with
 | bool => simp only [Sem.run_bind,run_underlying h2,Result.andThen]; rfl
 | int k => simp only [Sem.run_bind,run_underlying h2,Result.andThen]; rfl
 | str => simp only [Sem.run_bind,run_underlying h2,Result.andThen]; rfl
 | st fs => obtain ⟨F,h2,_⟩ := h2; simp only [Sem.run_bind,run_underlying h2,Result.andThen]; rfl
 | sl e ty => simp only [Sem.run_bind,run_underlying h2.1,Result.andThen]; rfl
 | ptr e => simp only [Sem.run_bind,run_underlying h2,Result.andThen]; rfl
 | arr n e ty => simp only [Sem.run_bind,run_underlying h2.1,Result.andThen]; rfl
 | ifc => obtain ⟨ms,h2⟩ := h2; simp only [Sem.run_bind,run_underlying h2,Result.andThen]; rfl
 | fn => obtain ⟨a,b,c,h2⟩ := h2; simp only [Sem.run_bind,run_underlying h2,Result.andThen]; rfl
 | tup => cases hk
 | other => cases hk
/-! ### cells -/
theorem okCell_one {v : AVal U} {c : Value} (h : RelV C g v c) (hk : okCell v = true) : c.oneCell' = true ∧ c.cells = #[c] := by
 cases h <;> first | exact ⟨rfl,rfl⟩ | cases hk
theorem okCells_one : ∀ {vs : List (AVal U)} {cs : List Value},RelVs C g vs cs → okCells vs = true → ∀ c ∈ cs,c.oneCell' = true
 | _,_,.nil,_ => fun c hc => by cases hc
 | _,_,.cons hv hs,hk => by
  simp only [okCells,Bool.and_eq_true] at hk
  intro c hc
  cases hc with
  | head => exact (okCell_one hv hk.1).1
  | tail _ hc => exact okCells_one hs hk.2 c hc
theorem cellsOf_rel {v : AVal U} {c : Value} {l : List (AVal U)} (h : RelV C g v c) (hl : cellsOf v = some l) : RelVs C g l c.cells.toList ∧ okCells l = true := by
 by_cases hk : okCell v = true
 · have h1 : cellsOf v = some [v] := by
    cases v <;> first | (cases hk; done) | rfl
   rw [h1] at hl
   obtain rfl := Option.some.inj hl
   rw [(okCell_one h hk).2]
   exact ⟨.cons h .nil,by simp [okCells,hk]⟩
 · cases v with
   | agg cs =>
    replace hl : (match okCells cs with | true => some cs | false => none) = some l := hl
    cases hc : okCells cs with
    | false => rw [hc] at hl; cases hl
    | true =>
     rw [hc] at hl
     obtain rfl := Option.some.inj hl
     cases h with
     | agg hs => exact ⟨hs,hc⟩
   | junk => cases hl
   | und => cases hl
   | tup _ => cases hl
   | gd _ _ _ _ => cases hl
   | _ => exact absurd rfl hk
theorem co_rel {k : TK} {v : AVal U} {c : Value} (h : RelV C g v c) : RelV C g (co k v) c := by
 cases v with
 | nils =>
  cases h
  unfold co
  cases k with
  | sl e ty => exact .sl0 rfl
  | _ => exact .nils
 | _ => exact h
/-! ### data of shapes -/
theorem recast_eq {a b : Ty} {x : List (a.den U)} {y : List (b.den U)} (h : recast a b x = some y) : ∃ e : a = b,y = e ▸ x := by
 unfold recast at h
 split at h
 · rename_i hs
   exact ⟨Ty.same_eq hs,(Option.some.inj h).symm⟩
 · cases h
theorem flat_width (hC : CodecOk C) : ∀ (t : Ty) (x : t.den U),(flat C t x).length = width C t
 | .unit,_ => rfl
 | .int _,_ => rfl
 | .bool,_ => rfl
 | .str,_ => rfl
 | .pair a b,x => by simp [flat,width,flat_width hC a,flat_width hC b]
 | .sl _,_ => rfl
 | .user i,x => hC.width i x
theorem cellsAll_length (hC : CodecOk C) (t : Ty) : ∀ l : List (t.den U),(cellsAll C t l).length = l.length * width C t
 | [] => by simp [cellsAll]
 | x :: r => by
  have := cellsAll_length hC t r
  unfold cellsAll at this ⊢
  rw [List.flatMap_cons,List.length_append,flat_width hC,this,List.length_cons,Nat.add_mul]
  omega
/-- A slice that may not be appended to. -/
theorem RelV.noPerm {t : Ty} {l : List (t.den U)} {p : Perm} {c : Value} (h : RelV C g (.sl t l p) c) : RelV C g (.sl t l .no) c := by
 cases h with
 | sl0 => exact .sl0 rfl
 | sle => exact .sle rfl
 | sl a b c d => exact .sl a b c trivial
def noUser : Ty → Bool
 | .user _ => false
 | .pair a b => noUser a && noUser b
 | _ => true
theorem unflat_ok' : ∀ (t : Ty) (hC : noUser t = true ∨ CodecOk C) (cs : List (AVal U)) (x : t.den U) (rest : List (AVal U)),unflat C t cs = some (x,rest) →
 ∀ g vs,RelVs C g cs vs → ∃ a b,vs = a ++ b ∧ RelVs C g (flat C t x) a ∧ RelVs C g rest b
 | .unit,hC,cs,x,rest,h,g,vs,hr => by
  obtain ⟨rfl,rfl⟩ := Prod.mk.inj (Option.some.inj h)
  exact ⟨[],vs,rfl,.nil,hr⟩
 | .int k,hC,cs,x,rest,h,g,vs,hr => by
  cases hr with
  | nil => cases h
  | cons hv hs =>
   rename_i v c cs' vs'
   cases v <;> first | (cases h; done) | skip
   rename_i k' n
   unfold unflat at h
   by_cases e : k' = k
   · rw [if_pos e] at h
     obtain ⟨rfl,rfl⟩ := Prod.mk.inj (Option.some.inj h)
     subst e
     exact ⟨[c],vs',rfl,.cons hv .nil,hs⟩
   · rw [if_neg e] at h; cases h
 | .bool,hC,cs,x,rest,h,g,vs,hr => by
  cases hr with
  | nil => cases h
  | cons hv hs =>
   rename_i v c cs' vs'
   cases v <;> first | (cases h; done) | skip
   obtain ⟨rfl,rfl⟩ := Prod.mk.inj (Option.some.inj h)
   exact ⟨[c],vs',rfl,.cons hv .nil,hs⟩
 | .str,hC,cs,x,rest,h,g,vs,hr => by
  cases hr with
  | nil => cases h
  | cons hv hs =>
   rename_i v c cs' vs'
   cases v <;> first | (cases h; done) | skip
   obtain ⟨rfl,rfl⟩ := Prod.mk.inj (Option.some.inj h)
   exact ⟨[c],vs',rfl,.cons hv .nil,hs⟩
 | .pair a b,hC,cs,x,rest,h,g,vs,hr => by
  unfold unflat at h
  obtain ⟨x1,h1,h⟩ := Option.bind_eq_some_iff.1 h
  obtain ⟨x2,h2,h⟩ := Option.bind_eq_some_iff.1 h
  obtain ⟨rfl,rfl⟩ := Prod.mk.inj (Option.some.inj h)
  obtain ⟨a1,b1,rfl,r1,r2⟩ := unflat_ok' a (hC.imp (fun q => (Bool.and_eq_true .. ▸ q : _ ∧ _).1) id) cs x1.1 x1.2 h1 g vs hr
  obtain ⟨a2,b2,rfl,r3,r4⟩ := unflat_ok' b (hC.imp (fun q => (Bool.and_eq_true .. ▸ q : _ ∧ _).2) id) x1.2 x2.1 x2.2 h2 g b1 r2
  exact ⟨a1 ++ a2,b2,by simp,RelVs.append r1 r3,r4⟩
 | .sl e,hC,cs,x,rest,h,g,vs,hr => by
  cases hr with
  | nil => cases h
  | cons hv hs =>
   rename_i v c cs' vs'
   cases v <;> first | (cases h; done) | skip
   · obtain ⟨rfl,rfl⟩ := Prod.mk.inj (Option.some.inj h)
     cases hv
     exact ⟨[.slice none 0 0],vs',rfl,.cons (.sl0 rfl) .nil,hs⟩
   · rename_i e' l p
     unfold unflat at h
     obtain ⟨l',h1,h⟩ := Option.bind_eq_some_iff.1 h
     obtain ⟨rfl,rfl⟩ := Prod.mk.inj (Option.some.inj h)
     obtain ⟨rfl,rfl⟩ := recast_eq h1
     exact ⟨[c],vs',rfl,.cons hv.noPerm .nil,hs⟩
 | .user i,hC,cs,x,rest,h,g,vs,hr => (hC.resolve_left (by simp [noUser])).unflat i cs x rest h g vs hr
theorem unflat_ok (hC : CodecOk C) (t : Ty) (cs : List (AVal U)) (x : t.den U) (rest : List (AVal U)) (h : unflat C t cs = some (x,rest)) (g : Gh) (vs : List Value) (hr : RelVs C g cs vs) :
 ∃ a b,vs = a ++ b ∧ RelVs C g (flat C t x) a ∧ RelVs C g rest b := unflat_ok' t (.inr hC) cs x rest h g vs hr
theorem unflatAll_ok (hC : CodecOk C) (t : Ty) : ∀ (n : Nat) (cs : List (AVal U)) (l : List (t.den U)),unflatAll C t n cs = some l →
 ∀ g vs,RelVs C g cs vs → l.length = n ∧ ∃ a b,vs = a ++ b ∧ RelVs C g (cellsAll C t l) a
 | 0,cs,l,h,g,vs,hr => by
  obtain rfl := Option.some.inj h
  exact ⟨rfl,[],vs,rfl,.nil⟩
 | n + 1,cs,l,h,g,vs,hr => by
  unfold unflatAll at h
  obtain ⟨x,h1,h⟩ := Option.bind_eq_some_iff.1 h
  obtain ⟨l',h2,h⟩ := Option.bind_eq_some_iff.1 h
  obtain rfl := Option.some.inj h
  obtain ⟨a,b,rfl,r1,r2⟩ := unflat_ok hC t cs x.1 x.2 h1 g vs hr
  obtain ⟨hl,a2,b2,rfl,r3⟩ := unflatAll_ok hC t n x.2 l' h2 g b r2
  refine ⟨by simp [hl],a ++ a2,b2,by simp,?_⟩
  unfold cellsAll
  rw [List.flatMap_cons]
  exact RelVs.append r1 r3
/-! ### what stands at a pointer -/
def At (w : World) (blk off : Nat) (vs : List Value) : Prop := ∀ (j : Nat) (v : Value),vs[j]? = some v → w.cell? ⟨blk,off + j,none⟩ = some v
theorem addr_add (blk off n : Nat) : (⟨blk,off,none⟩ : Addr).add n = ⟨blk,off + n,none⟩ := by unfold Addr.add; split <;> simp_all
theorem run_loadCells_at {blk off : Nat} {vs : List Value} (h : At w blk off vs) : (loadCells ⟨blk,off,none⟩ vs.length).run P w = .ok vs.toArray w :=
 run_loadCells_list w _ vs fun j v hv => by rw [addr_add]; exact h j v hv
theorem At.take {blk off : Nat} {vs : List Value} (h : At w blk off vs) (n : Nat) : At w blk off (vs.take n) := fun j v hv => by
 rw [List.getElem?_take] at hv
 split at hv
 · exact h j v hv
 · cases hv
theorem At.drop {blk off : Nat} {vs : List Value} (h : At w blk off vs) (n : Nat) : At w blk (off + n) (vs.drop n) := fun j v hv => by
 rw [List.getElem?_drop] at hv
 have := h (n + j) v hv
 rwa [← Nat.add_assoc] at this
theorem Imm.drop {blk off : Nat} {vs : List Value} (h : Imm g blk off vs) (n : Nat) : Imm g blk (off + n) (vs.drop n) := fun j v hv => by
 rw [List.getElem?_drop] at hv
 have := h (n + j) v hv
 rwa [← Nat.add_assoc] at this
theorem Imm.take {blk off : Nat} {vs : List Value} (h : Imm g blk off vs) (n : Nat) : Imm g blk off (vs.take n) := fun j v hv => by
 rw [List.getElem?_take] at hv
 split at hv
 · exact h j v hv
 · cases hv
variable {S : Nat → Nat → Bool} {w0 : World} {R : Type}
theorem at?_rel {st : St U} {v : AVal U} {c : Value} {cs : List (AVal U)} (hH : HInv C S w0 st.box st.live g w) (h : RelV C g v c) (hc : at? st v = some cs) :
 ∃ blk off vs,c = .pointer (some ⟨blk,off,none⟩) ∧ RelVs C g cs vs ∧ At w blk off vs := by
 cases h with
 | ptr hβ =>
  rename_i b off blk base
  unfold at? at hc
  obtain ⟨cs0,h1,h2⟩ := Option.bind_eq_some_iff.1 hc
  obtain rfl := Option.some.inj h2
  obtain ⟨vs,hvs,hj⟩ := hH.box b cs0 blk base h1 hβ
  exact ⟨blk,base + off,vs.drop off,rfl,RelVs.drop off hvs,At.drop (fun j v hv => (hj j v hv).2.1) off⟩
 | rp hs hi =>
  obtain rfl := Option.some.inj hc
  exact ⟨_,_,_,rfl,hs,fun j v hv => hH.imm _ _ _ (hi j v hv)⟩
 | _ => cases hc
theorem loadAt_rel {cx : Cx U R} {t : TypeId} {cs : List (AVal U)} {v : AVal U} {blk off : Nat} {vs : List Value} (ht : TTOk C P cx.TT t) (hs : RelVs C g cs vs) (ha : At w blk off vs) (h : loadAt cx t cs = some v) :
 ∃ c,(loadVar t ⟨blk,off,none⟩).run P w = .ok c w ∧ RelV C g v c := by
 unfold loadAt at h
 cases hk : (cx.TT t).k.known with
 | false => rw [hk] at h; cases h
 | true =>
  rw [hk] at h
  obtain ⟨z,hz⟩ := ht.known hk
  cases hg : (cx.TT t).k.agg with
  | true =>
   rw [hg] at h
   cases hb : Nat.ble (cx.TT t).size cs.length with
   | false => rw [hb] at h; cases h
   | true =>
    rw [hb] at h
    obtain rfl := Option.some.inj h
    have hle := Nat.le_of_ble_eq_true hb
    have hl := RelVs.length hs
    have hlen : (vs.take (cx.TT t).size).length = (cx.TT t).size := by rw [List.length_take]; omega
    refine ⟨.agg (vs.take (cx.TT t).size).toArray,?_,.agg (RelVs.take _ hs)⟩
    have h1 := run_loadCells_at (P := P) (ha.take (cx.TT t).size)
    rw [hlen] at h1
    simp only [loadVar,Sem.run_bind,run_agg ht hk,hg,Result.andThen,if_true,run_size hz,h1,Sem.run_pure]
  | false =>
   rw [hg] at h
   cases hs with
   | nil => cases h
   | cons hv hs =>
    obtain rfl := Option.some.inj h
    rename_i v c cs vs
    refine ⟨c,?_,hv⟩
    have := ha 0 c rfl
    simp only [loadVar,Sem.run_bind,run_agg ht hk,hg,Result.andThen,run_load]
    simp at this
    simp [this]
end
end Go.Proofs.YtccfmfifnbnlmaaGreatDoor.Ev
end
