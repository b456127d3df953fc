/- The framework's words: abstract values, data types, memory, and the evaluator (no theorem of a program here). -/
import Derived.WalkKit
import Derived.Below
namespace Go.Proofs.Ytkdemkkepepbdaa.Sx
set_option linter.unusedSectionVars false
set_option linter.unusedVariables false
set_option linter.unusedSimpArgs false
open Go.RowKit

/-- A bound on lengths: 2^47. -/
def LIM : Nat := 140737488355328

/-- Codes of Go's data types. -/
inductive Ty where
  | int (k : IntKind) | bool | str | list (t : Ty) | prod (a b : Ty)
  deriving DecidableEq

/-- The Lean type of a code. -/
@[reducible] def den : Ty → Type
  | .int _ => Int
  | .bool => Bool
  | .str => List UInt8
  | .list t => List (den t)
  | .prod a b => den a × den b

/-- How many cells an element takes. -/
def nc : Ty → Nat
  | .prod a b => nc a + nc b
  | _ => 1

def dflt : (t : Ty) → den t
  | .int _ => (0 : Int)
  | .bool => false
  | .str => ([] : List UInt8)
  | .list _ => []
  | .prod a b => (dflt a, dflt b)

/-- Abstract values. -/
inductive AV where
  | bad
  | und
  | int (k : IntKind) (n : Int)
  | bool (b : Bool)
  | str (s : List UInt8)
  | nilp
  | nsl (nil : Bool)
  | view (src : List Nat) (t : Ty) (xs : List (den t))
  | vptr (src : List Nat) (cells : List AV)
  | ptr (i off : Nat)
  | vsl (i off len cap : Nat)
  | own (i : Nat)
  | sub (i : Nat) (n : Int)
  | rptr (i : Nat) (t : Ty) (idx : Int) (off : Nat)
  | agg (l : List AV)
  | tup (l : List AV)
  | fn (f : Fn) (first captured : List AV)
  | nilfn
  | nilif
  | iface (t : TypeId) (v : AV)

/-- Blocks of one's own. -/
inductive Blk where
  | dead
  | var (cells : List AV)
  | row (e : TypeId) (t : Ty) (xs : List (den t)) (src : List Nat)

structure St where
  tm : List AV
  mem : List Blk
  k1 : List Nat
  k2 : List Nat

def app {α : Type} : List α → List α → List α
  | [], l => l
  | a :: k, l => a :: app k l
def lget : List AV → Nat → AV
  | [], _ => .bad
  | a :: _, 0 => a
  | _ :: l, n + 1 => lget l n
def lset : List AV → Nat → AV → List AV
  | [], _, _ => []
  | _ :: l, 0, v => v :: l
  | a :: l, n + 1, v => a :: lset l n v
def ldrop : Nat → List AV → List AV
  | 0, l => l
  | _ + 1, [] => []
  | n + 1, _ :: l => ldrop n l
def ltake : Nat → List AV → List AV
  | 0, _ => []
  | _ + 1, [] => []
  | n + 1, a :: l => a :: ltake n l
def llen : List AV → Nat
  | [] => 0
  | _ :: l => llen l + 1
/-- cells written over others from a place on -/
def lput : List AV → Nat → List AV → List AV
  | l, _, [] => l
  | l, n, v :: vs => lput (lset l n v) (n + 1) vs
def rep (v : AV) : Nat → List AV
  | 0 => []
  | n + 1 => v :: rep v n
def mget : List Blk → Nat → Blk
  | [], _ => .dead
  | a :: _, 0 => a
  | _ :: l, n + 1 => mget l n
def mset : List Blk → Nat → Blk → List Blk
  | [], _, _ => []
  | _ :: l, 0, v => v :: l
  | a :: l, n + 1, v => a :: mset l n v
def mlen : List Blk → Nat
  | [] => 0
  | _ :: l => mlen l + 1
def memb : Nat → List Nat → Bool
  | _, [] => false
  | n, a :: l => match Nat.beq n a with | true => true | false => memb n l
def hits : List Nat → List Nat → Bool
  | [], _ => false
  | a :: l, k => match memb a k with | true => true | false => hits l k

/-- Names joined, each once. -/
def uniN : List Nat → List Nat → List Nat
  | [], l => l
  | a :: k, l => match memb a l with | true => uniN k l | false => a :: uniN k l

def orb : Bool → Bool → Bool
  | true, _ => true
  | false, b => b
def andb : Bool → Bool → Bool
  | true, b => b
  | false, _ => false
def nob : Bool → Bool
  | true => false
  | false => true
def ofBytes (b : ByteArray) : List UInt8 := b.data.toList

mutual
def kill (k1 k2 : List Nat) : AV → AV
  | .view src t xs => match hits src k2 with | true => .bad | false => .view src t xs
  | .vptr src cells => match hits src k2 with | true => .bad | false => .vptr src (killL k1 k2 cells)
  | .ptr i off => match memb i k1 with | true => .bad | false => .ptr i off
  | .vsl i a b c => match memb i k1 with | true => .bad | false => .vsl i a b c
  | .own i => match memb i k1 with | true => .bad | false => .own i
  | .sub i n => match memb i k1 with | true => .bad | false => .sub i n
  | .rptr i t a b => match memb i k1 with | true => .bad | false => .rptr i t a b
  | .agg l => .agg (killL k1 k2 l)
  | .tup l => .tup (killL k1 k2 l)
  | .fn f a b => .fn f (killL k1 k2 a) (killL k1 k2 b)
  | .iface t v => .iface t (kill k1 k2 v)
  | v => v
def killL (k1 k2 : List Nat) : List AV → List AV
  | [] => []
  | a :: l => kill k1 k2 a :: killL k1 k2 l
end

def killB (k1 k2 : List Nat) : Blk → Blk
  | .var cells => .var (killL k1 k2 cells)
  | .row e t xs src => match hits src k2 with | true => .dead | false => .row e t xs src
  | b => b
def killM (k1 k2 : List Nat) : List Blk → List Blk
  | [] => []
  | a :: l => killB k1 k2 a :: killM k1 k2 l

/-- The cells of an element. -/
def enc (src : List Nat) : (t : Ty) → den t → List AV
  | .int k, x => [.int k x]
  | .bool, x => [.bool x]
  | .str, x => [.str x]
  | .list t, xs => [.view src t xs]
  | .prod a b, x => app (enc src a x.1) (enc src b x.2)

def castL (t t' : Ty) (xs : List (den t)) : Option (List (den t')) :=
  if h : t = t' then some (h ▸ xs) else none

/-- An element of cells. -/
def dec : (t : Ty) → List AV → Option (den t × List AV)
  | .int k, .int k' n :: l => if k = k' then some (n, l) else none
  | .bool, .bool b :: l => some (b, l)
  | .str, .str s :: l => some (s, l)
  | .list t, .view _ t' xs :: l => match castL t' t xs with | some ys => some (ys, l) | none => none
  | .list _, .nsl _ :: l => some ([], l)
  | .prod a b, l => match dec a l with
    | some (x, l) => match dec b l with
      | some (y, l) => some ((x, y), l)
      | none => none
    | none => none
  | _, _ => none

def IntKind.hasB (k : IntKind) (n : Int) : Bool := decide (k.min ≤ n) && decide (n ≤ k.max)

mutual
def ofV : Value → AV
  | .bool b => .bool b
  | .int k n => match IntKind.hasB k n with | true => .int k n | false => .bad
  | .string s => match Nat.ble (ofBytes s).length LIM with | true => .str (ofBytes s) | false => .bad
  | .pointer none => .nilp
  | .slice a 0 0 => .nsl (match a with | none => true | some _ => false)
  | .nilFunc => .nilfn
  | .nilIface => .nilif
  | .agg cs => .agg (ofVL cs.toList)
  | _ => .bad
def ofVL : List Value → List AV
  | [] => []
  | a :: l => ofV a :: ofVL l
end

/-- Types' kinds, as far as they are wanted. -/
inductive TK where
  | int (k : IntKind) | bool | str | func | slice (e : TypeId) | struct (fs : List (TypeId × Nat)) | ptr (e : TypeId) | arr (n : Nat) (e : TypeId) | other
structure TI where
  k : TK
  size : Nat
  bytes : Nat
  zero : Value
  eqs : Bool

abbrev Tab := List (Nat × TI)
def tlook : Tab → Nat → Option TI
  | [], _ => none
  | (k, i) :: l, n => match Nat.beq k n with | true => some i | false => tlook l n

inductive AExit where
  | normal | exit (id : Nat) | ret | panic (v : AV)

def ev (tm : List AV) : Operand → AV
  | .tmp t => lget tm t
  | .const v => ofV v
  | .global _ => .bad
  | .func f => .fn (.func f) [] []

-- PRIMS (in the show tool these are opaque)
def ifB (b : Bool) (X Y : Prop) : Prop := match b with | true => X | false => Y
def need (p X : Prop) : Prop := p ∧ X
def imp (p X : Prop) : Prop := p → X
def ltB (a b : Int) : Bool := decide (a < b)
def leB (a b : Int) : Bool := decide (a ≤ b)
def eqB (a b : Int) : Bool := decide (a = b)
def beqB (a b : Bool) : Bool := a == b
def seqB (a b : List UInt8) : Bool := a == b
def notB (a : Bool) : Bool := !a
def addW (k : IntKind) (a b : Int) : Int := k.wrap (a + b)
def subW (k : IntKind) (a b : Int) : Int := k.wrap (a - b)
def mulW (k : IntKind) (a b : Int) : Int := k.wrap (a * b)
def quoW (k : IntKind) (a b : Int) : Int := k.wrap (a.tdiv b)
def remI (a b : Int) : Int := a.tmod b
def wrI (k : IntKind) (a : Int) : Int := k.wrap a
def selI (c : Bool) (a b : Int) : Int := match c with | true => a | false => b
def selB (c a b : Bool) : Bool := match c with | true => a | false => b
def sapp (a b : List UInt8) : List UInt8 := a ++ b
def fitS (a : List UInt8) : Prop := a.length ≤ LIM
def sltB (a b : List UInt8) : Bool := Op.bytesLess a b
def orB (a b : Bool) : Bool := a || b
def lenI {α : Type} (xs : List α) : Int := (xs.length : Int)
def nth (t : Ty) (xs : List (den t)) (i : Int) : den t := xs.getD i.toNat (dflt t)
def inI (i n : Int) : Prop := 0 ≤ i ∧ i < n
def nzI (b : Int) : Prop := b ≠ 0
def eqI (a b : Int) (K : Prop) : Prop := a = b ∧ K
def eqL (a b : Bool) (K : Prop) : Prop := a = b ∧ K
def eqS (a b : List UInt8) (K : Prop) : Prop := a = b ∧ K
def impB (b : Bool) (p : Prop) : Prop := match b with | true => p | false => True
def andB (a b : Bool) : Bool := a && b
def selX {α : Type} (c : Bool) (a b : α) : α := match c with | true => a | false => b
def eqT (a b : Bool) : Prop := a = b
def fitA (n : Int) : Prop := n ≤ 1099511627776
def eqD {α : Type} (a b : List α) (K : Prop) : Prop := a = b ∧ K
def bandW (k : IntKind) (a b : Int) : Int := k.wrap (BitVec.ofInt k.bits a &&& BitVec.ofInt k.bits b).toNat
def borW (k : IntKind) (a b : Int) : Int := k.wrap (BitVec.ofInt k.bits a ||| BitVec.ofInt k.bits b).toNat
def bxorW (k : IntKind) (a b : Int) : Int := k.wrap (BitVec.ofInt k.bits a ^^^ BitVec.ofInt k.bits b).toNat
def bclrW (k : IntKind) (a b : Int) : Int := k.wrap (BitVec.ofInt k.bits a &&& ~~~(BitVec.ofInt k.bits b)).toNat
def shlW (k : IntKind) (a b : Int) : Int := k.wrap (a * 2 ^ (min b.toNat k.bits))
def shrW (k : IntKind) (a b : Int) : Int := a.fdiv (2 ^ (min b.toNat k.bits))
def forceD {α : Type} (x : α) (k : α → Prop) : Prop := k x
def geZ (b : Int) : Prop := 0 ≤ b
def leI (a b : Int) : Prop := a ≤ b
def appL {α : Type} (a b : List α) : List α := a ++ b
def repI {α : Type} (n : Int) (x : α) : List α := List.replicate n.toNat x
def setI {α : Type} (xs : List α) (i : Int) (y : α) : List α := xs.set i.toNat y
def subL {α : Type} (xs : List α) (i j : Int) : List α := (xs.take j.toNat).drop i.toNat
def byteAt (s : List UInt8) (i : Int) : Int := ((s.getD i.toNat 0).toNat : Int)
-- END PRIMS

def pickV (c : Bool) (x y : AV) (K : AV → Prop) : Prop :=
  match x, y with
  | .bool a, .bool b => K (.bool (selB c a b))
  | .int k a, .int k' b => if k = k' then K (.int k (selI c a b)) else ifB c (K x) (K y)
  | _, _ => ifB c (K x) (K y)

def intOp (op : BinOp) (k : IntKind) (a b : Int) (K : AV → Prop) : Prop :=
  match op with
  | .add => K (.int k (addW k a b))
  | .sub => K (.int k (subW k a b))
  | .mul => K (.int k (mulW k a b))
  | .quo => need (nzI b) (K (.int k (quoW k a b)))
  | .rem => need (nzI b) (K (.int k (remI a b)))
  | .eql => K (.bool (eqB a b))
  | .neq => K (.bool (notB (eqB a b)))
  | .lss => K (.bool (ltB a b))
  | .leq => K (.bool (leB a b))
  | .gtr => K (.bool (ltB b a))
  | .geq => K (.bool (leB b a))
  | _ => False

def kindOf (tab : Tab) (t : TypeId) : TK :=
  match tlook tab t with
  | some ti => ti.k
  | none => .other

def eqA (tab : Tab) (T : TypeId) (x y : AV) (K : Bool → Prop) : Prop :=
  match kindOf tab T, x, y with
  | .bool, .bool a, .bool b => K (beqB a b)
  | .ptr _, .nilp, .nilp => K true
  | .ptr _, .nilp, .ptr _ _ => K false
  | .ptr _, .ptr _ _, .nilp => K false
  | .ptr _, .nilp, .vptr _ _ => K false
  | .ptr _, .vptr _ _, .nilp => K false
  | .func, .nilfn, .nilfn => K true
  | .func, .fn _ _ _, .nilfn => K false
  | .slice _, .nsl true, .nsl true => K true
  | .slice _, .vsl _ _ _ _, .nsl true => K false
  | _, _, _ => False

def strOp (op : BinOp) (a b : List UInt8) (K : AV → Prop) : Prop :=
  match op with
  | .add => need (fitS (sapp a b)) (K (.str (sapp a b)))
  | .eql => K (.bool (seqB a b))
  | .neq => K (.bool (notB (seqB a b)))
  | .lss => K (.bool (sltB a b))
  | .leq => K (.bool (orB (sltB a b) (seqB a b)))
  | .gtr => K (.bool (notB (orB (sltB a b) (seqB a b))))
  | .geq => K (.bool (notB (sltB a b)))
  | _ => False

def binA (tab : Tab) (T : TypeId) (op : BinOp) (x y : AV) (K : AV → Prop) : Prop :=
  match x, y with
  | .int k a, .int k' b => if k = k' then intOp op k a b K else False
  | .str a, .str b => strOp op a b K
  | _, _ => match op with
    | .eql => eqA tab T x y (fun b => K (.bool b))
    | .neq => eqA tab T x y (fun b => K (.bool (notB b)))
    | _ => False

def unA (op : UnOp) (x : AV) (K : AV → Prop) : Prop :=
  match op, x with
  | .not, .bool b => K (.bool (notB b))
  | .neg, .int k n => K (.int k (subW k 0 n))
  | _, _ => False

/-- The cells of a value; none, where they are not known. -/
def cells? : AV → Option (List AV)
  | .agg l => some l
  | .bad => none
  | .und => none
  | .tup _ => none
  | v => some [v]

def flat1 : AV → Bool
  | .agg _ | .bad | .und | .tup _ => false
  | _ => true
def flatL : List AV → Bool
  | [] => true
  | a :: l => match flat1 a with | true => flatL l | false => false

def headQ (cells : List AV) (K : AV → Prop) : Prop :=
  match cells with | [] => False | a :: _ => K a

/-- What is read as a value of a type at the head of some cells. -/
def partQ (tab : Tab) (t : TypeId) (cells : List AV) (K : AV → Prop) : Prop :=
  match tlook tab t with
  | some ti => match ti.k with
    | .struct _ => match Nat.ble ti.size (llen cells) with | true => K (.agg (ltake ti.size cells)) | false => False
    | .arr _ _ => match Nat.ble ti.size (llen cells) with | true => K (.agg (ltake ti.size cells)) | false => False
    | _ => headQ cells K
  | none => False

def fieldOf : List (TypeId × Nat) → Nat → Option (TypeId × Nat)
  | [], _ => none
  | a :: _, 0 => some a
  | _ :: l, n + 1 => fieldOf l n

def minA (x y : AV) (K : AV → Prop) : Prop :=
  match x, y with
  | .int k a, .int k' b => if k = k' then K (.int k (selI (ltB b a) b a)) else False
  | _, _ => False
def maxA (x y : AV) (K : AV → Prop) : Prop :=
  match x, y with
  | .int k a, .int k' b => if k = k' then K (.int k (selI (ltB a b) b a)) else False
  | _, _ => False
def foldA (f : AV → AV → (AV → Prop) → Prop) : AV → List AV → (AV → Prop) → Prop
  | x, [], K => K x
  | x, y :: l, K => f x y (fun z => foldA f z l K)

def sizeT (tab : Tab) (t : TypeId) : Option Nat :=
  match tlook tab t with
  | some ti => some ti.size
  | none => none

/-- The sizes of all the fields of a struct can be told. -/
def fieldsOK (tab : Tab) : List (TypeId × Nat) → Bool
  | [] => true
  | (t, _) :: l => match sizeT tab t with
    | some _ => fieldsOK tab l
    | none => false

def fillA (tab : Tab) (fs : List (TypeId × Nat)) (cells : List AV) : List (Nat × AV) → Option (List AV)
  | [] => some cells
  | (i, v) :: l => match fieldOf fs i with
    | some (t, off) => match tlook tab t with
      | some ti => match cells? v with
        | some cs => match Nat.beq (llen cs) ti.size with
          | true => match Nat.ble (off + llen cs) (llen cells) with
            | true => fillA tab fs (lput cells off cs) l
            | false => none
          | false => none
        | none => none
      | none => none
    | none => none

def loadA (tab : Tab) (t : TypeId) (mem : List Blk) (x : AV) (K : AV → Prop) : Prop :=
  match x with
  | .ptr i off => match mget mem i with
    | .var cells => partQ tab t (ldrop off cells) K
    | _ => False
  | .vptr _ cells => partQ tab t cells K
  | .rptr i t'' idx off => match mget mem i with
    | .row _ t' xs src => if t'' = t' then need (inI idx (lenI xs)) (partQ tab t (ldrop off (enc src t' (nth t' xs idx))) K) else False
    | _ => False
  | _ => False

abbrev Opd := Operand → AV

def evs (ρ : Opd) : List Operand → List AV
  | [] => []
  | a :: l => ρ a :: evs ρ l
def evp (ρ : Opd) : List (Nat × Operand) → List (Nat × AV)
  | [] => []
  | (i, a) :: l => (i, ρ a) :: evp ρ l

/-- What a call comes to. -/
inductive AOut where
  | ret (v : AV) | panic (v : AV)
abbrev AK := AOut → List Blk → List Nat → List Nat → Prop
abbrev ACall := FuncId → List AV → List Blk → AK → Prop

def addr0 : AV → Bool
  | .ptr .. | .vptr .. | .rptr .. => true
  | .fn (.func _) _ _ => true
  | _ => false

def lenA (tab : Tab) (t : TypeId) (x : AV) (mem : List Blk) (K : AV → Prop) : Prop :=
  match kindOf tab t, x with
  | .slice _, .view _ _ xs => K (.int .i64 (lenI xs))
  | .slice _, .nsl _ => K (.int .i64 0)
  | .str, .str s => K (.int .i64 (lenI s))
  | .slice _, .vsl _ _ n _ => match Nat.ble n LIM with | true => K (.int .i64 (Int.ofNat n)) | false => False
  | .slice _, .own i => match mget mem i with
    | .row _ _ xs _ => K (.int .i64 (lenI xs))
    | _ => False
  | .slice _, .sub i n => match mget mem i with
    | .row _ _ _ _ => K (.int .i64 n)
    | _ => False
  | _, _ => False

def indexA (tab : Tab) (t : TypeId) (x ix : AV) (mem : List Blk) (K : AV → Prop) : Prop :=
  match kindOf tab t, x, ix with
  | .slice e, .view src t' xs, .int _ i => match sizeT tab e with
    | some n => match Nat.beq n (nc t') with
      | true => need (inI i (lenI xs)) (K (.vptr src (enc src t' (nth t' xs i))))
      | false => False
    | none => False
  | .slice e, .own j, .int _ i => match mget mem j with
    | .row _ t' xs _ => match sizeT tab e with
      | some n => match Nat.beq n (nc t') with
        | true => need (inI i (lenI xs)) (K (.rptr j t' i 0))
        | false => False
      | none => False
    | _ => False
  | .slice e, .sub j k, .int _ i => match mget mem j with
    | .row _ t' _ _ => match sizeT tab e with
      | some n => match Nat.beq n (nc t') with
        | true => need (inI i k) (K (.rptr j t' i 0))
        | false => False
      | none => False
    | _ => False
  | .slice e, .vsl j off n _, .int _ i => match sizeT tab e with
    | some m => need (inI i (Int.ofNat n)) (K (.ptr j (off + i.toNat * m)))
    | none => False
  | .arr n e, .ptr j off, .int _ i => match sizeT tab e with
    | some m => need (inI i (Int.ofNat n)) (K (.ptr j (off + i.toNat * m)))
    | none => False
  | _, _, _ => False

/-- Kinds of slices that are cut in place where they are one's own. -/
def loudT : List Nat := [22, 43]
/-- Kinds of slices that are lent: one's own cut, what is behind stays there. -/
def lentT : List Nat := []
/-- Kinds of slices whose places are told one by one. -/
def splitT : List Nat := [24]
/-- Operations that leave memory as it is. -/
def quiet (o : Oper) : Bool :=
  match o.op with
  | .slice t _ none (some (.tmp _)) none => nob (memb t loudT)
  | .move _ | .assign _ | .pick .. | .build .. | .load .. | .nilCheck _ | .binOp .. | .unOp .. | .fieldAddr .. | .field .. | .indexAddr .. | .extract .. | .makeFunc .. | .convert .. | .index .. | .slice .. => true
  | .call c => match c.callee with
    | .builtin b => match b with
      | .len | .min | .max | .cap => true
      | _ => false
    | _ => false
  | _ => false

def capA (tab : Tab) (t : TypeId) (x : AV) : Option AV :=
  match kindOf tab t, x with
  | .slice _, .nsl _ => some (.int .i64 0)
  | _, _ => none
def qopOld (tab : Tab) (o : Oper) (ρ : Opd) (mem : List Blk) (K : AV → Prop) : Prop :=
  match o.op with
  | .move x => K (ρ x)
  | .assign x => K (ρ x)
  | .pick c a b => match ρ c with
    | .bool cb => ifB cb (K (ρ a)) (K (ρ b))
    | _ => False
  | .build t parts => match tlook tab t with
    | some ti => match ti.k with
      | .struct fs => match cells? (ofV ti.zero) with
        | some z => match fieldsOK tab fs with
          | true => match fillA tab fs z (evp ρ parts.toList) with
            | some cells => K (.agg cells)
            | none => False
          | false => False
        | none => False
      | _ => False
    | none => False
  | .load t a => loadA tab t mem (ρ a) K
  | .nilCheck x => match addr0 (ρ x) with | true => K (ρ x) | false => False
  | .binOp op T x y _ => binA tab T op (ρ x) (ρ y) K
  | .unOp op _ x => unA op (ρ x) K
  | .fieldAddr s x f => match tlook tab s with
    | some ti => match ti.k with
      | .struct fs => match fieldOf fs f with
        | some (ft, o) => match sizeT tab ft with
          | some (_ + 1) => match ρ x with
            | .ptr i off => K (.ptr i (off + o))
            | .vptr src cells => match ldrop o cells with
              | [] => False
              | a :: l => K (.vptr src (a :: l))
            | .rptr i t idx off => K (.rptr i t idx (off + o))
            | _ => False
          | _ => False
        | none => False
      | _ => False
    | none => False
  | .field s x f => match tlook tab s with
    | some ti => match ti.k with
      | .struct fs => match fieldOf fs f with
        | some (t, o) => match ρ x with
          | .agg cells => partQ tab t (ldrop o cells) K
          | _ => False
        | none => False
      | _ => False
    | none => False
  | .indexAddr t x ix => indexA tab t (ρ x) (ρ ix) mem K
  | .extract t i => match ρ t with
    | .tup l => match Nat.ble (i + 1) (llen l) with | true => K (lget l i) | false => False
    | _ => False
  | .makeFunc f a b => K (.fn f (evs ρ a.toList) (evs ρ b.toList))
  | .call c => match c.callee with
    | .builtin b => match b, evs ρ c.args.toList with
      | .len, [x] => match c.argTypes.toList with | [t] => lenA tab t x mem K | _ => False
      | .cap, [x] => match c.argTypes.toList with | [t] => (match capA tab t x with | some v => K v | none => False) | _ => False
      | .min, x :: l => foldA minA x l K
      | .max, x :: l => foldA maxA x l K
      | _, _ => False
    | _ => False
  | _ => False

/-! ### quiet operations told by a value and what they ask -/

def needL : List Prop → Prop → Prop
  | [], X => X
  | p :: l, X => need p (needL l X)
abbrev OV := Option (List Prop × AV)
def ov (v : AV) : OV := some ([], v)
def ovp (p : Prop) (v : AV) : OV := some ([p], v)
def impL (b : Bool) : List Prop → List Prop
  | [] => []
  | p :: l => impB b p :: impL b l

def intV (op : BinOp) (k : IntKind) (a b : Int) : OV :=
  match op with
  | .add => ov (.int k (addW k a b))
  | .sub => ov (.int k (subW k a b))
  | .mul => ov (.int k (mulW k a b))
  | .quo => ovp (nzI b) (.int k (quoW k a b))
  | .rem => ovp (nzI b) (.int k (remI a b))
  | .and => ov (.int k (bandW k a b))
  | .or => ov (.int k (borW k a b))
  | .xor => ov (.int k (bxorW k a b))
  | .andNot => ov (.int k (bclrW k a b))
  | .eql => ov (.bool (eqB a b))
  | .neq => ov (.bool (notB (eqB a b)))
  | .lss => ov (.bool (ltB a b))
  | .leq => ov (.bool (leB a b))
  | .gtr => ov (.bool (ltB b a))
  | .geq => ov (.bool (leB b a))
  | _ => none

def eqV (tab : Tab) (T : TypeId) (x y : AV) : Option Bool :=
  match kindOf tab T, x, y with
  | .bool, .bool a, .bool b => some (beqB a b)
  | .ptr _, .nilp, .nilp => some true
  | .ptr _, .nilp, .ptr _ _ => some false
  | .ptr _, .ptr _ _, .nilp => some false
  | .ptr _, .nilp, .vptr _ _ => some false
  | .ptr _, .vptr _ _, .nilp => some false
  | .func, .nilfn, .nilfn => some true
  | .func, .fn _ _ _, .nilfn => some false
  | .slice _, .nsl true, .nsl true => some true
  | .slice _, .vsl _ _ _ _, .nsl true => some false
  | _, _, _ => none

def headV (cells : List AV) : Option AV :=
  match cells with | [] => none | a :: _ => some a
def partV (tab : Tab) (t : TypeId) (cells : List AV) : Option AV :=
  match tlook tab t with
  | some ti => match ti.k with
    | .struct _ => match Nat.ble ti.size (llen cells) with | true => some (.agg (ltake ti.size cells)) | false => none
    | .arr _ _ => match Nat.ble ti.size (llen cells) with | true => some (.agg (ltake ti.size cells)) | false => none
    | _ => headV cells
  | none => none
def eqPart (tab : Tab) (rec : TypeId → AV → AV → Option Bool) (t : TypeId) (xs ys : List AV) (off : Nat) : Option Bool :=
  match partV tab t (ldrop off xs), partV tab t (ldrop off ys) with
  | some a, some b => rec t a b
  | _, _ => none
/-- Are the parts alike that stand at some places? -/
def eqParts (tab : Tab) (rec : TypeId → AV → AV → Option Bool) (xs ys : List AV) : List (TypeId × Nat) → Option Bool
  | [] => some true
  | (t, off) :: l => match l with
    | [] => eqPart tab rec t xs ys off
    | _ :: _ => match eqPart tab rec t xs ys off, eqParts tab rec xs ys l with
      | some p, some q => some (andB p q)
      | _, _ => none
def places (e : TypeId) (m : Nat) : Nat → Nat → List (TypeId × Nat)
  | 0, _ => []
  | n + 1, i => (e, i * m) :: places e m n (i + 1)
/-- Are two values alike, part by part? -/
def eqAg (tab : Tab) : Nat → TypeId → AV → AV → Option Bool
  | 0, _, _, _ => none
  | d + 1, t, x, y => match tlook tab t with
    | some ti => match ti.k, x, y with
      | .int _, .int k a, .int k' b => if k = k' then some (eqB a b) else none
      | .bool, .bool a, .bool b => some (beqB a b)
      | .str, .str a, .str b => some (seqB a b)
      | .struct fs, .agg xs, .agg ys => match ti.eqs with | true => eqParts tab (eqAg tab d) xs ys fs | false => none
      | .arr n e, .agg xs, .agg ys => match ti.eqs, sizeT tab e with | true, some m => eqParts tab (eqAg tab d) xs ys (places e m n 0) | _, _ => none
      | _, _, _ => none
    | none => none
def eqX (tab : Tab) (T : TypeId) (x y : AV) : Option Bool :=
  match x, y with
  | .agg xs, .agg ys => eqAg tab 6 T (.agg xs) (.agg ys)
  | x, y => eqV tab T x y

def strV (op : BinOp) (a b : List UInt8) : OV :=
  match op with
  | .add => ovp (fitS (sapp a b)) (.str (sapp a b))
  | .eql => ov (.bool (seqB a b))
  | .neq => ov (.bool (notB (seqB a b)))
  | .lss => ov (.bool (sltB a b))
  | .leq => ov (.bool (orB (sltB a b) (seqB a b)))
  | .gtr => ov (.bool (notB (orB (sltB a b) (seqB a b))))
  | .geq => ov (.bool (notB (sltB a b)))
  | _ => none

def isShift : BinOp → Bool
  | .shl | .shr => true
  | _ => false
def shiftV (op : BinOp) (k : IntKind) (a b : Int) : OV :=
  match op with
  | .shl => ovp (geZ b) (.int k (shlW k a b))
  | .shr => ovp (geZ b) (.int k (shrW k a b))
  | _ => none

def binV (tab : Tab) (T : TypeId) (op : BinOp) (x y : AV) : OV :=
  match x, y with
  | .int k a, .int k' b => match isShift op with
    | true => shiftV op k a b
    | false => if k = k' then intV op k a b else none
  | .str a, .str b => strV op a b
  | _, _ => match op with
    | .eql => match eqX tab T x y with | some b => ov (.bool b) | none => none
    | .neq => match eqX tab T x y with | some b => ov (.bool (notB b)) | none => none
    | _ => none

def allOnes (k : IntKind) : Int := if k.signed = true then -1 else k.max
def unV (op : UnOp) (x : AV) : OV :=
  match op, x with
  | .not, .bool b => ov (.bool (notB b))
  | .neg, .int k n => ov (.int k (subW k 0 n))
  | .xor, .int k n => ov (.int k (bxorW k n (allOnes k)))
  | _, _ => none

def ovO : Option AV → OV
  | some v => ov v
  | none => none
def ovOp (p : Prop) : Option AV → OV
  | some v => ovp p v
  | none => none

def minV (x y : AV) : Option AV :=
  match x, y with
  | .int k a, .int k' b => if k = k' then some (.int k (selI (ltB b a) b a)) else none
  | _, _ => none
def maxV (x y : AV) : Option AV :=
  match x, y with
  | .int k a, .int k' b => if k = k' then some (.int k (selI (ltB a b) b a)) else none
  | _, _ => none
def foldV (f : AV → AV → Option AV) : AV → List AV → Option AV
  | x, [] => some x
  | x, y :: l => match f x y with | some z => foldV f z l | none => none

def loadV (tab : Tab) (t : TypeId) (mem : List Blk) (x : AV) : OV :=
  match x with
  | .ptr i off => match mget mem i with
    | .var cells => ovO (partV tab t (ldrop off cells))
    | _ => none
  | .vptr _ cells => ovO (partV tab t cells)
  | .rptr i t'' idx off => match mget mem i with
    | .row _ t' xs src => if t'' = t' then ovOp (inI idx (lenI xs)) (partV tab t (ldrop off (enc src t' (nth t' xs idx)))) else none
    | _ => none
  | _ => none

def lenV (tab : Tab) (t : TypeId) (x : AV) (mem : List Blk) : Option AV :=
  match kindOf tab t, x with
  | .slice _, .view _ _ xs => some (.int .i64 (lenI xs))
  | .slice _, .nsl _ => some (.int .i64 0)
  | .str, .str s => some (.int .i64 (lenI s))
  | .slice _, .vsl _ _ n _ => match Nat.ble n LIM with | true => some (.int .i64 (Int.ofNat n)) | false => none
  | .slice _, .own i => match mget mem i with
    | .row _ _ xs _ => some (.int .i64 (lenI xs))
    | _ => none
  | .slice _, .sub i n => match mget mem i with
    | .row _ _ _ _ => some (.int .i64 n)
    | _ => none
  | _, _ => none


def indexV (tab : Tab) (t : TypeId) (x ix : AV) (mem : List Blk) : OV :=
  match kindOf tab t, x, ix with
  | .slice e, .view src t' xs, .int _ i => match sizeT tab e with
    | some n => match Nat.beq n (nc t') with
      | true => ovp (inI i (lenI xs)) (.vptr src (enc src t' (nth t' xs i)))
      | false => none
    | none => none
  | .slice e, .own j, .int _ i => match mget mem j with
    | .row _ t' xs _ => match sizeT tab e with
      | some n => match Nat.beq n (nc t') with
        | true => ovp (inI i (lenI xs)) (.rptr j t' i 0)
        | false => none
      | none => none
    | _ => none
  | .slice e, .sub j k, .int _ i => match mget mem j with
    | .row _ t' _ _ => match sizeT tab e with
      | some n => match Nat.beq n (nc t') with
        | true => ovp (inI i k) (.rptr j t' i 0)
        | false => none
      | none => none
    | _ => none
  | .slice e, .vsl j off n _, .int _ i => match memb t splitT with
    | true => none
    | false => match sizeT tab e with
      | some m => ovp (inI i (Int.ofNat n)) (.ptr j (off + i.toNat * m))
      | none => none
  | .arr n e, .ptr j off, .int _ i => match sizeT tab e with
    | some m => ovp (inI i (Int.ofNat n)) (.ptr j (off + i.toNat * m))
    | none => none
  | _, _, _ => none

mutual
/-- One of two values. -/
def selV (c : Bool) : AV → AV → Option AV
  | .int k a, .int k' b => if k = k' then some (.int k (selI c a b)) else none
  | .bool a, .bool b => some (.bool (selB c a b))
  | .str a, .str b => some (.str (selX c a b))
  | .view src t xs, .view src' t' ys => match castL t' t ys with | some ys => some (.view (uniN src src') t (selX c xs ys)) | none => none
  | .view src t xs, .nsl _ => some (.view src t (selX c xs []))
  | .nsl _, .view src t xs => some (.view src t (selX c [] xs))
  | .nilp, .nilp => some .nilp
  | .nsl a, .nsl b => match andb a b with | true => some (.nsl true) | false => none
  | .ptr i a, .ptr j b => match Nat.beq i j, Nat.beq a b with | true, true => some (.ptr i a) | _, _ => none
  | .own i, .own j => match Nat.beq i j with | true => some (.own i) | false => none
  | .agg l, .agg l' => match selVL c l l' with | some l => some (.agg l) | none => none
  | .tup l, .tup l' => match selVL c l l' with | some l => some (.tup l) | none => none
  | _, _ => none
def selVL (c : Bool) : List AV → List AV → Option (List AV)
  | [], [] => some []
  | a :: l, b :: l' => match selV c a b, selVL c l l' with
    | some x, some y => some (x :: y)
    | _, _ => none
  | _, _ => none
end

def pickVV (c : Bool) (x y : AV) : OV :=
  match x, y with
  | .und, y => ovp (eqT c false) y
  | x, .und => ovp (eqT c true) x
  | x, y => ovO (selV c x y)

/-- Parts laid at places of one size. -/
def fillE (n : Nat) (cells : List AV) : List (Nat × AV) → Option (List AV)
  | [] => some cells
  | (i, v) :: l => match cells? v with
    | some cs => match Nat.beq (llen cs) n with
      | true => match Nat.ble (i * n + llen cs) (llen cells) with
        | true => fillE n (lput cells (i * n) cs) l
        | false => none
      | false => none
    | none => none
def idxV (tab : Tab) (t : TypeId) (x ix : AV) : OV :=
  match kindOf tab t, x, ix with
  | .arr n e, .agg cells, .int _ i => match sizeT tab e with
    | some m => ovOp (inI i (Int.ofNat n)) (partV tab e (ldrop (i.toNat * m) cells))
    | none => none
  | .str, .str s, .int _ i => ovp (inI i (lenI s)) (.int .u8 (byteAt s i))
  | _, _, _ => none
def convV (tab : Tab) (src dst : TypeId) (x : AV) : OV :=
  match kindOf tab src, kindOf tab dst, x with
  | .int _, .int k, .int _ n => ov (.int k (wrI k n))
  | .str, .str, .str s => ov (.str s)
  | _, _, _ => none
def eqO (o : Option Nat) (n : Nat) : Bool := match o with | some k => Nat.beq k n | none => false
def bndV (ρ : Opd) (d : Int) : Option Operand → Option Int
  | none => some d
  | some x => match ρ x with | .int _ n => some n | _ => none
def isZ (ρ : Opd) : Option Operand → Bool
  | some (.const v) => match ρ (.const v) with | .int _ n => decide (n = 0) | _ => false
  | _ => false
def nop {α : Type} : Option α → Bool | none => true | some _ => false
def sliceV (tab : Tab) (t : TypeId) (x : AV) (ρ : Opd) (lo hi mx : Option Operand) : OV :=
  match kindOf tab t, x with
  | .str, .str s => match mx, bndV ρ 0 lo, bndV ρ (lenI s) hi with
    | none, some l, some h => some ([leI 0 l, leI l h, leI h (lenI s)], .str (subL s l h))
    | _, _, _ => none
  | .slice e, .view src T xs => match eqO (sizeT tab e) (nc T), mx with
    | true, none => match bndV ρ 0 lo, bndV ρ (lenI xs) hi with
      | some l, some h => some ([leI 0 l, leI l h, leI h (lenI xs)], .view src T (subL xs l h))
      | _, _ => none
    | true, some _ => match andb (nop lo) (andb (isZ ρ hi) (isZ ρ mx)) with
      | true => ov (.nsl false)
      | false => none
    | false, _ => none
  | .slice e, .nsl b => match sizeT tab e, andb (nop lo) (andb (isZ ρ hi) (orb (nop mx) (isZ ρ mx))) with
    | some _, true => ov (.nsl b)
    | some _, false => match mx, bndV ρ 0 lo, bndV ρ 0 hi with
      | none, some l, some h => some ([leI 0 l, leI l h, leI h 0], .nsl b)
      | _, _, _ => none
    | _, _ => none
  | _, _ => none
/-- One's own row lent, and what is lent cut anew (as far as the row goes). -/
def sliceU (tab : Tab) (t : TypeId) (mem : List Blk) (x : AV) (ρ : Opd) (lo hi mx : Option Operand) : OV :=
  match x with
  | .own i => match memb t lentT, kindOf tab t, mget mem i with
    | true, .slice e, .row _ T xs _ => match eqO (sizeT tab e) (nc T), lo, hi, mx with
      | true, none, some _, none => match bndV ρ 0 hi with
        | some n => some ([leI 0 n, leI n (lenI xs)], .sub i n)
        | none => none
      | _, _, _, _ => none
    | _, _, _ => none
  | .sub i _ => match kindOf tab t, mget mem i with
    | .slice e, .row _ T xs src => match eqO (sizeT tab e) (nc T), hi, mx with
      | true, some _, none => match bndV ρ 0 lo, bndV ρ 0 hi with
        | some l, some h => some ([leI 0 l, leI l h, leI h (lenI xs)], .view (uniN [i] src) T (subL xs l h))
        | _, _ => none
      | _, _, _ => none
    | _, _ => none
  | _ => none
/-- A row of one's own, seen as what is read. -/
def own1 (m : List Blk) (v : AV) : AV := match v with
  | .own i => match mget m i with
    | .row _ t xs src => .view (uniN [i] src) t xs
    | _ => .own i
  | v => v
def own1q (q : Bool) (m : List Blk) (v : AV) : AV := match q with | true => own1 m v | false => v
def qval (tab : Tab) (o : Oper) (ρ : Opd) (mem : List Blk) : OV :=
  match o.op with
  | .move x => ov (ρ x)
  | .assign x => ov (ρ x)
  | .pick c a b => match ρ c with
    | .bool cb => pickVV cb (ρ a) (ρ b)
    | _ => none
  | .build t parts => match tlook tab t with
    | some ti => match ti.k with
      | .struct fs => match cells? (ofV ti.zero) with
        | some z => match fieldsOK tab fs with
          | true => match fillA tab fs z (evp ρ parts.toList) with
            | some cells => ov (.agg cells)
            | none => none
          | false => none
        | none => none
      | .arr _ e => match cells? (ofV ti.zero), sizeT tab e with
        | some z, some n => match fillE n z (evp ρ parts.toList) with
          | some cells => ov (.agg cells)
          | none => none
        | _, _ => none
      | _ => none
    | none => none
  | .index t x ix => idxV tab t (ρ x) (ρ ix)
  | .convert src dst x => convV tab src dst (ρ x)
  | .load t a => loadV tab t mem (ρ a)
  | .nilCheck x => match addr0 (ρ x) with | true => ov (ρ x) | false => none
  | .binOp op T x y _ => binV tab T op (ρ x) (ρ y)
  | .unOp op _ x => unV op (ρ x)
  | .fieldAddr s x f => match tlook tab s with
    | some ti => match ti.k with
      | .struct fs => match fieldOf fs f with
        | some (ft, o) => match sizeT tab ft with
          | some (_ + 1) => match ρ x with
            | .ptr i off => ov (.ptr i (off + o))
            | .vptr src cells => match ldrop o cells with
              | [] => none
              | a :: l => ov (.vptr src (a :: l))
            | .rptr i t idx off => ov (.rptr i t idx (off + o))
            | _ => none
          | _ => none
        | none => none
      | _ => none
    | none => none
  | .field s x f => match tlook tab s with
    | some ti => match ti.k with
      | .struct fs => match fieldOf fs f with
        | some (t, o) => match ρ x with
          | .agg cells => ovO (partV tab t (ldrop o cells))
          | _ => none
        | none => none
      | _ => none
    | none => none
  | .indexAddr t x ix => indexV tab t (ρ x) (ρ ix) mem
  | .slice t x lo hi mx => match sliceU tab t mem (ρ x) ρ lo hi mx with
    | some r => some r
    | none => sliceV tab t (own1q (quiet o) mem (ρ x)) ρ lo hi mx
  | .extract t i => match ρ t with
    | .tup l => match Nat.ble (i + 1) (llen l) with | true => ov (lget l i) | false => none
    | _ => none
  | .makeFunc f a b => ov (.fn f (evs ρ a.toList) (evs ρ b.toList))
  | .call c => match c.callee with
    | .builtin b => match b, evs ρ c.args.toList with
      | .len, [x] => match c.argTypes.toList with | [t] => ovO (lenV tab t x mem) | _ => none
      | .cap, [x] => match c.argTypes.toList with | [t] => ovO (capA tab t x) | _ => none
      | .min, x :: l => ovO (foldV minV x l)
      | .max, x :: l => ovO (foldV maxV x l)
      | _, _ => none
    | _ => none
  | _ => none


/-- What a slice that may be nil is, if it is. -/
def lenNil (mem : List Blk) : AV → Option Prop
  | .view _ _ xs => some (lenI xs = 0)
  | .own i => match mget mem i with | .row _ _ xs _ => some (lenI xs = 0) | _ => none
  | .nsl false => some True
  | _ => none
def splitI (i : Int) (K : Nat → Prop) : Nat → Nat → Prop
  | _, 0 => False
  | a, n + 1 => ifB (eqB i (Int.ofNat a)) (K a) (splitI i K (a + 1) n)
/-- A place told one by one. -/
def splitQ (tab : Tab) (o : Oper) (ρ : Opd) (K : AV → Prop) : Prop :=
  match o.op with
  | .indexAddr t x ix => match kindOf tab t, ρ x, ρ ix with
    | .slice e, .vsl j off n _, .int _ i => match sizeT tab e with
      | some m => splitI i (fun a => K (.ptr j (off + a * m))) 0 n
      | none => False
    | _, _, _ => False
  | _ => False
def qop (tab : Tab) (o : Oper) (ρ : Opd) (mem : List Blk) (K : AV → Prop) : Prop :=
  match qval tab o ρ mem with
  | some (ps, v) => needL ps (K v)
  | none => match o.op with
    | .pick c a b => match ρ c with
      | .bool cb => ifB cb (K (ρ a)) (K (ρ b))
      | _ => False
    | .binOp op T x y _ => match kindOf tab T, ρ y with
      | .slice _, .nsl true => match lenNil mem (ρ x), op with
        | some p, .eql => need (imp p (K (.bool true))) (K (.bool false))
        | some p, .neq => need (imp p (K (.bool false))) (K (.bool true))
        | _, _ => False
      | _, _ => False
    | .indexAddr .. => splitQ tab o ρ K
    | _ => False

def bytesT (tab : Tab) (t : TypeId) : Nat := match tlook tab t with | some ti => ti.bytes | none => 0
/-- The elements of a slice that are copied. -/
def elemsAs (t : Ty) (mem : List Blk) : AV → Option (List (den t) × List Nat)
  | .view src t' ys => match castL t' t ys with | some ys => some (ys, src) | none => none
  | .own j => match mget mem j with
    | .row _ t' ys src => match castL t' t ys with | some ys => some (ys, src) | none => none
    | _ => none
  | .sub j n => match mget mem j with
    | .row _ t' ys src => match castL t' t ys with | some ys => some (subL ys 0 n, src) | none => none
    | _ => none
  | .nsl _ => some ([], [])
  | _ => none
def tyOfA (mem : List Blk) : AV → Option Ty
  | .view _ t _ => some t
  | .own j => match mget mem j with | .row _ t _ _ => some t | _ => none
  | .sub j _ => match mget mem j with | .row _ t _ _ => some t | _ => none
  | _ => none
def zeroLen (tab : Tab) (e : TypeId) : Option Nat := match tlook tab e with
  | some ti => match cells? (ofV ti.zero) with | some z => some (llen z) | none => none
  | none => none
def appTo (tab : Tab) (e : TypeId) (mem : List Blk) (i : Nat) (x : AV) (K : AK) : Prop :=
  match mget mem i with
  | .row e' t xs src => match andb (Nat.beq e e') (andb (andb (eqO (sizeT tab e) (nc t)) (eqO (zeroLen tab e) (nc t))) (andb (Nat.blt 0 (bytesT tab e)) (Nat.ble (bytesT tab e) 128))), elemsAs t mem x with
    | true, some (ys, srcx) => match orb (memb i src) (memb i srcx) with
      | true => False
      | false => need (fitA (lenI xs + lenI ys)) (K (.ret (.own i)) (mset (killM [i] [i] mem) i (.row e t (appL xs ys) (uniN src srcx))) [i] [i])
    | _, _ => False
  | _ => False
def appendA (tab : Tab) (t : TypeId) (mem : List Blk) (s x : AV) (K : AK) : Prop :=
  match kindOf tab t with
  | .slice e => match s with
    | .own i => appTo tab e mem i x K
    | .nsl true => match tyOfA mem x with
      | some t' => appTo tab e (app (killM [mlen mem] [] mem) [.row e t' [] []]) (mlen mem) (kill [mlen mem] [] x) K
      | none => match x, sizeT tab e with
        | .nsl _, some _ => K (.ret (.nsl true)) mem [] []
        | _, _ => False
    | .nsl false => match tyOfA mem x with
      | some t' => match elemsAs t' mem x, sizeT tab e, Nat.ble (bytesT tab e) 128 with
        | some (ys, _), some _, true => ifB (eqB (lenI ys) 0) (K (.ret (.nsl false)) mem [] []) (need (fitA (lenI ys)) (appTo tab e (app (killM [mlen mem] [] mem) [.row e t' [] []]) (mlen mem) (kill [mlen mem] [] x) K))
        | _, _, _ => False
      | none => match x, sizeT tab e with
        | .nsl _, some _ => K (.ret (.nsl false)) mem [] []
        | _, _ => False
    | _ => False
  | _ => False
mutual
def srcsV : AV → List Nat
  | .view src _ _ => src
  | .vptr src l => uniN src (srcsL l)
  | .fn _ a b => uniN (srcsL a) (srcsL b)
  | .iface _ v => srcsV v
  | .agg l => srcsL l
  | .tup l => srcsL l
  | _ => []
def srcsL : List AV → List Nat
  | [] => []
  | a :: l => uniN (srcsV a) (srcsL l)
end
def tyFsOf (f : TypeId → Option Ty) : List (TypeId × Nat) → Option Ty
  | [] => none
  | (t, _) :: l => match l with
    | [] => f t
    | _ :: _ => match f t, tyFsOf f l with
      | some a, some b => some (.prod a b)
      | _, _ => none
/-- so many of one code -/
def tyRep (t : Ty) : Nat → Option Ty
  | 0 => none
  | n + 1 => match n with
    | 0 => some t
    | _ + 1 => match tyRep t n with | some r => some (.prod t r) | none => none
/-- The code of a type. -/
def tyOf (tab : Tab) : Nat → TypeId → Option Ty
  | 0, _ => none
  | n + 1, t => match kindOf tab t with
    | .int k => some (.int k)
    | .bool => some .bool
    | .str => some .str
    | .slice e => match tyOf tab n e with | some a => some (.list a) | none => none
    | .struct fs => tyFsOf (tyOf tab n) fs
    | .arr k e => match tyOf tab n e with | some a => tyRep a k | none => none
    | _ => none
def decN (t : Ty) : Nat → List AV → Option (List (den t))
  | 0, [] => some []
  | 0, _ :: _ => none
  | n + 1, l => match dec t l with
    | some (x, r) => match decN t n r with | some xs => some (x :: xs) | none => none
    | none => none
def mapAV (f : AV → AV) : List AV → List AV
  | [] => []
  | a :: l => f a :: mapAV f l
/-- What one's own blocks hold, as what is read alone. -/
def freeze (m : List Blk) : Nat → AV → AV
  | 0, _ => .bad
  | n + 1, v => match v with
    | .ptr i off => match mget m i with
      | .var cells => match ldrop off cells with
        | [] => .bad
        | a :: l => .vptr [i] (mapAV (freeze m n) (a :: l))
      | _ => .bad
    | .own i => match mget m i with
      | .row _ t xs src => .view (uniN [i] src) t xs
      | _ => .bad
    | .sub i n => match mget m i with
      | .row _ t xs src => .view (uniN [i] src) t (subL xs 0 n)
      | _ => .bad
    | .vptr src cells => .vptr src (mapAV (freeze m n) cells)
    | .agg l => .agg (mapAV (freeze m n) l)
    | .tup l => .tup (mapAV (freeze m n) l)
    | .fn f a b => .fn f (mapAV (freeze m n) a) (mapAV (freeze m n) b)
    | .vsl _ _ _ _ => .bad
    | .rptr _ _ _ _ => .bad
    | v => v
def repL (z : List AV) : Nat → List AV
  | 0 => []
  | n + 1 => app z (repL z n)
/-- A new row of one's own. -/
def pushRow (e : TypeId) (t : Ty) (ys : List (den t)) (src : List Nat) (mem : List Blk) (K : AK) : Prop :=
  match memb (mlen mem) src with
  | true => False
  | false => K (.ret (.own (mlen mem))) (mset (killM [mlen mem] [mlen mem] (app (killM [mlen mem] [] mem) [.row e t [] []])) (mlen mem) (.row e t ([] ++ ys) (uniN [] src))) [mlen mem] [mlen mem]
def buildSl (tab : Tab) (t : TypeId) (len : Nat) (parts : List (Nat × AV)) (mem : List Blk) (K : AK) : Prop :=
  match kindOf tab t with
  | .slice e => match tlook tab e with
    | some ti => match cells? (ofV ti.zero) with
      | some z => match andb (Nat.ble (len * ti.size) 16777216) (andb (Nat.beq (llen z) ti.size) (Nat.blt 0 ti.size)), fillE ti.size (repL z len) parts with
        | true, some cells => match tyOf tab 6 e with
          | some T => match Nat.beq ti.size (nc T), decN T len (mapAV (freeze mem 4) cells) with
            | true, some ys => pushRow e T ys (srcsL (mapAV (freeze mem 4) cells)) mem K
            | _, _ => K (.ret (.vsl (mlen mem) 0 len len)) (app mem [.var cells]) [] []
          | none => K (.ret (.vsl (mlen mem) 0 len len)) (app mem [.var cells]) [] []
        | _, _ => False
      | none => False
    | none => False
  | _ => False
/-- So many zeros put onto nil. -/
def appendZ (tab : Tab) (t t' : TypeId) (mem : List Blk) (x : AV) (K : AK) : Prop :=
  match kindOf tab t, kindOf tab t', x with
  | .slice e, .int _, .int _ n => match tlook tab e with
    | some ti => match cells? (ofV ti.zero), tyOf tab 6 e with
      | some z, some T => match andb (Nat.beq ti.size (nc T)) (andb (Nat.beq (llen z) ti.size) (andb (Nat.blt 0 ti.size) (andb (Nat.blt 0 ti.bytes) (Nat.ble ti.bytes 128)))), dec T z with
        | true, some (x, []) => need (leI 1 n) (need (fitA n) (pushRow e T (repI n x) (srcsL z) mem K))
        | _, _ => False
      | _, _ => False
    | none => False
  | _, _, _ => False
def lop (tab : Tab) (call : ACall) (o : Oper) (ρ : Opd) (mem : List Blk) (K : AK) : Prop :=
  match o.op with
  | .box _ x => match cells? (ρ x) with
    | some cs => K (.ret (.ptr (mlen mem) 0)) (app mem [.var cs]) [] []
    | none => False
  | .alloc t => match tlook tab t with
    | some ti => match cells? (ofV ti.zero) with
      | some cs => K (.ret (.ptr (mlen mem) 0)) (app mem [.var cs]) [] []
      | none => False
    | none => False
  | .buildSlice t len parts => buildSl tab t len (evp ρ parts.toList) mem K
  | .makeSlice t l c => match kindOf tab t, ρ l, ρ c with
    | .slice e, .int _ n, .int _ n' => match tlook tab e with
      | some ti => match cells? (ofV ti.zero), tyOf tab 6 e with
        | some z, some T => match andb (Nat.beq ti.size (nc T)) (andb (Nat.beq (llen z) ti.size) (andb (Nat.blt 0 ti.size) (Nat.ble ti.bytes 128))), dec T z with
          | true, some (x, []) => eqI n' n (need (geZ n) (need (fitA n) (pushRow e T (repI n x) (srcsL z) mem K)))
          | _, _ => False
        | _, _ => False
      | none => False
    | _, _, _ => False
  | .slice t x lo hi mx => match kindOf tab t, ρ x with
    | .slice e, .own i => match mget mem i with
      | .row e' T xs src => match bndV ρ (lenI xs) hi, andb (nop lo) (andb (nop mx) (eqO (sizeT tab e) (nc T))) with
        | some h, true => need (leI 0 h) (need (leI h (lenI xs)) (K (.ret (.own i)) (mset (killM [i] [] mem) i (.row e' T (subL xs 0 h) src)) [i] []))
        | _, _ => False
      | _ => False
    | _, _ => match qval tab o ρ mem with
      | some (ps, v) => needL ps (K (.ret v) mem [] [])
      | none => False
  | .store t a x => match ρ a with
    | .rptr i T'' idx off => match mget mem i with
      | .row e T xs src => if T'' = T then match tlook tab t, cells? (kill [] [i] (freeze mem 4 (ρ x))) with
        | some ti, some cs => match andb (flatL cs) (andb (Nat.beq (llen cs) ti.size) (andb (Nat.ble (off + llen cs) (nc T)) (nob (orb (memb i src) (memb i (srcsL cs)))))), dec T (lput (enc src T (nth T xs idx)) off cs) with
          | true, some (y, []) => need (inI idx (lenI xs)) (K (.ret .bad) (mset (killM [] [i] mem) i (.row e T (setI xs idx y) (uniN src (srcsL cs)))) [] [i])
          | _, _ => False
        | _, _ => False
        else False
      | _ => False
    | .ptr i off => match mget mem i with
      | .var cells => match tlook tab t with
        | some ti => match cells? (kill [] [i] (ρ x)) with
          | some cs => match flatL cs with
            | true => match Nat.beq (llen cs) ti.size with
              | true => match Nat.ble (off + llen cs) (llen cells) with
                | true => K (.ret .bad) (mset (killM [] [i] mem) i (.var (lput (killL [] [i] cells) off cs))) [] [i]
                | false => False
              | false => False
            | false => False
          | none => False
        | none => False
      | _ => False
    | _ => False
  | .call c => match c.callee with
    | .value f => match ρ f with
      | .fn (.func k) first cap => call k (app (app first (evs ρ c.args.toList)) cap) mem K
      | _ => False
    | .builtin b => match b, c.argTypes.toList, evs ρ c.args.toList with
      | .append, [t, t'], [s, x] => match Nat.beq t t' with
        | true => appendA tab t mem s x K
        | false => match s with
          | .nsl true => appendZ tab t t' mem x K
          | _ => False
      | _, _, _ => False
    | _ => False
  | _ => False

def xop (tab : Tab) (call : ACall) (o : Oper) (ρ : Opd) (mem : List Blk) (K : AK) : Prop :=
  match quiet o with
  | true => qop tab o ρ mem (fun v => K (.ret v) mem [] [])
  | false => lop tab call o ρ mem K

def killF (k1 k2 : List Nat) (tm : List AV) : List AV :=
  match k1, k2 with
  | [], [] => tm
  | _, _ => killL k1 k2 tm

def putT (tm : List AV) (d : Option Tmp) (v : AV) : List AV :=
  match d with
  | some t => lset tm t v
  | none => tm

/-- Names joined, each once. -/
def uni : List Nat → List Nat → List Nat
  | [], l => l
  | a :: k, l => match memb a l with | true => uni k l | false => a :: uni k l

/-- The frame and memory behind an operation that left a value. -/
def after (σ : St) (d : Option Tmp) (v : AV) (mem : List Blk) (k1 k2 : List Nat) : St :=
  { tm := putT (killF k1 k2 σ.tm) d v, mem := mem, k1 := uni k1 σ.k1, k2 := uni k2 σ.k2 }

def oget : List Oper → Nat → Option Oper
  | [], _ => none
  | a :: _, 0 => some a
  | _ :: l, n + 1 => oget l n

def runOp (tab : Tab) (call : ACall) (o : Oper) (σ : St) (Q : AExit → St → Prop) (K : St → Prop) : Prop :=
  xop tab call o (ev σ.tm) σ.mem fun out mem k1 k2 =>
    match out with
    | .ret v => K (after σ o.dst v mem k1 k2)
    | .panic v => Q (.panic v) { tm := killF k1 k2 σ.tm, mem := mem, k1 := uni k1 σ.k1, k2 := uni k2 σ.k2 }

/-- An operation under its guard. -/
def guarded (ops : List Oper) (o : Oper) (σ : St) (yes : St → Prop) (no : St → Prop) : Prop :=
  match o.guard with
  | none => yes σ
  | some (j, want) => match oget ops j with
    | some oj => match oj.dst with
      | some t => match lget σ.tm t with
        | .bool b => match want with
          | true => ifB b (yes { σ with tm := lset σ.tm t (.bool true) }) (no { σ with tm := lset σ.tm t (.bool false) })
          | false => ifB b (no { σ with tm := lset σ.tm t (.bool true) }) (yes { σ with tm := lset σ.tm t (.bool false) })
        | .und => no σ
        | _ => False
      | none => False
    | none => False

def aops (tab : Tab) (call : ACall) (ops : List Oper) (Q : AExit → St → Prop) : List Oper → St → Prop
  | [], σ => Q .normal σ
  | o :: rest, σ => guarded ops o σ (fun σ => runOp tab call o σ Q (aops tab call ops Q rest))
      (fun σ => aops tab call ops Q rest { σ with tm := putT σ.tm o.dst .und })

abbrev FSpec := List AV → List Blk → OV
/-- Told in one way, or else in another one. -/
def orF (F G : FSpec) : FSpec := fun args m => match F args m with | some r => some r | none => G args m
abbrev FS := List (Nat × FSpec)
def fslook : FS → Nat → Option FSpec
  | [], _ => none
  | (k, i) :: l, n => match Nat.beq k n with | true => some i | false => fslook l n
/-- A call whose answer is told. -/
def callV (fs : FS) (o : Oper) (ρ : Opd) (mem : List Blk) : OV :=
  match o.op with
  | .call c => match c.callee with
    | .value f => match ρ f with
      | .fn (.func k) first cap => match Nat.ble 1000000 k with
        | true => none
        | false => match fslook fs k with
          | some F => F (app (app first (evs ρ c.args.toList)) cap) mem
          | none => match fslook fs (k + 1000000) with
            | some F => F (app (app first (evs ρ c.args.toList)) cap) mem
            | none => none
      | _ => none
    | _ => none
  | _ => none

/-- An operation, a told call among them. -/
def xopF (tab : Tab) (fs : FS) (call : ACall) (o : Oper) (ρ : Opd) (mem : List Blk) (K : AK) : Prop :=
  match quiet o with
  | true => xop tab call o ρ mem K
  | false => match callV fs o ρ mem with
    | some (ps, v) => needL ps (K (.ret v) mem [] [])
    | none => xop tab call o ρ mem K

/-! A region that draws its order: its quiet operations early, each looked at again where it may come later. -/

structure Stage where
  bar : Nat
  run : List Nat
  rc : List Nat

def tmpOf : List Operand → List Nat
  | [] => []
  | .tmp t :: l => t :: tmpOf l
  | _ :: l => tmpOf l
def bindsG : Ground → Bool
  | .textOnly _ => false
  | .gcOnly _ => false
  | _ => true
def edgesOf : List Edge → List Nat
  | [] => []
  | e :: l => match bindsG e.ground with | true => e.on :: edgesOf l | false => edgesOf l
def predsOf (ops : List Oper) (i : Nat) : List Nat :=
  match oget ops i with | some o => edgesOf o.after.toList | none => []
def dstOf (ops : List Oper) (i : Nat) : Option Nat :=
  match oget ops i with | some o => o.dst | none => none
/-- the temporaries that an operation and its guard read -/
def rdsOf (ops : List Oper) (i : Nat) : List Nat :=
  match oget ops i with
  | some o => match o.guard with
    | some (j, _) => match dstOf ops j with | some t => t :: tmpOf o.op.operands.toList | none => tmpOf o.op.operands.toList
    | none => tmpOf o.op.operands.toList
  | none => []
def isAssign (o : Oper) : Bool := match o.op with | .assign _ => true | _ => false
/-- an operation that may come early -/
def isQ (ops : List Oper) (i : Nat) : Bool :=
  match oget ops i with
  | some o => match isAssign o with | true => false | false => quiet o
  | none => false
def isSome {α : Type} : Option α → Bool | some _ => true | none => false
def rng : Nat → List Nat
  | 0 => []
  | n + 1 => app (rng n) [n]
def allN : List Nat → (Nat → Bool) → Bool
  | [], _ => true
  | a :: l, f => match f a with | true => allN l f | false => false
def anyN : List Nat → (Nat → Bool) → Bool
  | [], _ => false
  | a :: l, f => match f a with | true => true | false => anyN l f
def sameD : Option Nat → Option Nat → Bool
  | some a, some b => Nat.beq a b
  | _, _ => false
def rdD (ops : List Oper) (i : Nat) (d : Option Nat) : Bool := match d with | some t => memb t (rdsOf ops i) | none => false
/-- the temporaries are each written once, but by those that come in turn -/
def ssaOK (ops : List Oper) (n : Nat) : Bool :=
  allN (rng n) fun j => andb (allN (predsOf ops j) fun k => Nat.blt k j) (match isQ ops j with
    | true => andb (isSome (dstOf ops j)) (andb (nob (rdD ops j (dstOf ops j))) (allN (rng n) fun i => orb (Nat.beq i j) (andb (nob (sameD (dstOf ops i) (dstOf ops j))) (orb (nob (rdD ops i (dstOf ops j))) (memb j (predsOf ops i))))))
    | false => true)
def closureOK (ops : List Oper) (n : Nat) (P : List Nat) (next : List Nat) : Bool :=
  allN (rng n) fun i => orb (memb i P) (orb (memb i next) (anyN (predsOf ops i) fun j => nob (memb j P)))
/-- What may come next, each with what comes behind it; nothing: all is done. -/
inductive PT where
  | nil
  | cons (s : Stage) (sub rest : PT)
def heads : PT → List Nat
  | .nil => []
  | .cons s _ r => s.bar :: heads r
def rcOK (ops : List Oper) (P rc : List Nat) : Bool :=
  allN P fun i => orb (nob (isQ ops i)) (orb (memb i rc) (anyN P fun l => andb (nob (isQ ops l)) (memb i (predsOf ops l))))
def planA (ops : List Oper) (n : Nat) : List Nat → PT → Bool
  | _, .nil => true
  | P, .cons s sub rest => andb (andb (nob (isQ ops s.bar)) (andb (nob (memb s.bar P)) (andb (Nat.blt s.bar n)
      (allN s.run fun i => andb (isQ ops i) (andb (nob (memb i P)) (nob (Nat.beq i s.bar)))))))
      (andb (andb (closureOK ops n (app P (s.bar :: s.run)) (heads sub)) (andb (rcOK ops (app P (s.bar :: s.run)) s.rc) (planA ops n (app P (s.bar :: s.run)) sub))) (planA ops n P rest))
def planGo (ops : List Oper) (n : Nat) (P rc : List Nat) (t : PT) : Bool := andb (closureOK ops n P (heads t)) (andb (rcOK ops P rc) (planA ops n P t))
def planOK (ops : List Oper) (q rc : List Nat) (l : PT) : Bool :=
  andb (ssaOK ops ops.length) (andb (allN q fun i => isQ ops i) (planGo ops ops.length q rc l))

/-- the quiet ones that may come now -/
def closeQ (ops : List Oper) : List Nat → List Nat → List Nat
  | [], _ => []
  | i :: l, P => match andb (isQ ops i) (andb (nob (memb i P)) (allN (predsOf ops i) fun j => memb j P)) with
    | true => i :: closeQ ops l (i :: P)
    | false => closeQ ops l P
def pend (ops : List Oper) (P : List Nat) : List Nat → List Nat
  | [] => []
  | i :: l => match andb (isQ ops i) (nob (anyN P fun k => andb (nob (isQ ops k)) (memb i (predsOf ops k)))) with
    | true => i :: pend ops P l
    | false => pend ops P l
def nextB (ops : List Oper) (P : List Nat) : List Nat → List Nat
  | [] => []
  | i :: l => match andb (nob (isQ ops i)) (andb (nob (memb i P)) (allN (predsOf ops i) fun j => memb j P)) with
    | true => i :: nextB ops P l
    | false => nextB ops P l
def mkAlts (f : Nat → Stage × PT) : List Nat → PT
  | [] => .nil
  | b :: l => .cons (f b).1 (f b).2 (mkAlts f l)
def mkStages (ops : List Oper) (n : Nat) : Nat → List Nat → PT
  | 0, _ => .nil
  | f + 1, P => mkAlts (fun b =>
      let q := closeQ ops (rng n) (app P [b])
      let P' := app P (b :: q)
      (⟨b, q, pend ops P' P'⟩, mkStages ops n f P')) (nextB ops P (rng n))

def runQ (tab : Tab) (ops : List Oper) : List Nat → St → (St → Prop) → Prop
  | [], σ, K => K σ
  | i :: l, σ, K => match oget ops i with
    | some o => guarded ops o σ (fun σ => qop tab o (ev σ.tm) σ.mem fun v => runQ tab ops l { σ with tm := putT σ.tm o.dst v } K)
        (fun σ => runQ tab ops l { σ with tm := putT σ.tm o.dst .und } K)
    | none => False
def dstV (tm : List AV) (d : Option Tmp) : AV := match d with | some t => lget tm t | none => .bad
mutual
/-- Two values are the same, and then so on. -/
def sameK : AV → AV → Prop → Prop
  | .ptr i a, .ptr j b, K => match Nat.beq i j, Nat.beq a b with | true, true => K | _, _ => False
  | .int k a, .int k' b, K => if k = k' then eqI a b K else False
  | .bool a, .bool b, K => eqL a b K
  | .str a, .str b, K => eqS a b K
  | .agg l, .agg l', K => sameL l l' K
  | .tup l, .tup l', K => sameL l l' K
  | .nilp, .nilp, K => K
  | .own i, .own j, K => match Nat.beq i j with | true => K | false => False
  | .sub i n, .sub j m, K => match Nat.beq i j with | true => eqI n m K | false => False
  | .bad, .bad, K => K
  | .und, .und, K => K
  | x, y, K => need (x = y) K
def sameL : List AV → List AV → Prop → Prop
  | [], [], K => K
  | a :: l, b :: l', K => sameK a b (sameL l l' K)
  | _, _, _ => False
end
def badK (x : AV) (K : Prop) : Prop := match x with | .und => K | _ => False
def valid (tab : Tab) (ops : List Oper) (σ : St) (i : Nat) (K : Prop) : Prop :=
  match oget ops i with
  | some o => guarded ops o σ (fun σ' => qop tab o (ev σ'.tm) σ'.mem fun v => sameK v (dstV σ'.tm o.dst) K) (fun σ' => badK (dstV σ'.tm o.dst) K)
  | none => False
def checks (tab : Tab) (ops : List Oper) : List Nat → St → Prop → Prop
  | [], _, K => K
  | i :: l, σ, K => valid tab ops σ i (checks tab ops l σ K)
/-! what is planned, reckoned once -/
def forceN (n : Nat) (k : Nat → Prop) : Prop := match n with | 0 => k 0 | m + 1 => k (m + 1)
def forceL : List Nat → (List Nat → Prop) → Prop
  | [], k => k []
  | a :: l, k => forceN a fun a => forceL l fun l => k (a :: l)
def forceT : PT → (PT → Prop) → Prop
  | .nil, k => k .nil
  | .cons s sub rest, k => forceN s.bar fun b => forceL s.run fun r => forceL s.rc fun c => forceT sub fun sub => forceT rest fun rest => k (.cons ⟨b, r, c⟩ sub rest)
mutual
def forceV : AV → (AV → Prop) → Prop
  | .agg l, k => forceVL l fun l => k (.agg l)
  | .tup l, k => forceVL l fun l => k (.tup l)
  | .vptr s l, k => forceVL l fun l => k (.vptr s l)
  | .fn f a b, k => forceVL a fun a => forceVL b fun b => k (.fn f a b)
  | .iface t v, k => forceV v fun v => k (.iface t v)
  | .bad, k => k .bad
  | .und, k => k .und
  | .int kk n, k => forceD n fun n => k (.int kk n)
  | .bool b, k => forceD b fun b => k (.bool b)
  | .str s, k => forceD s fun s => k (.str s)
  | .nilp, k => k .nilp
  | .nsl b, k => k (.nsl b)
  | .view src t xs, k => forceL src fun src => forceD xs fun xs => k (.view src t xs)
  | .ptr i off, k => forceN i fun i => k (.ptr i off)
  | .vsl i a b c, k => forceN i fun i => k (.vsl i a b c)
  | .own i, k => forceN i fun i => k (.own i)
  | .sub i n, k => forceN i fun i => forceD n fun n => k (.sub i n)
  | .rptr i t a b, k => forceN i fun i => k (.rptr i t a b)
  | .nilfn, k => k .nilfn
  | .nilif, k => k .nilif
def forceVL : List AV → (List AV → Prop) → Prop
  | [], k => k []
  | a :: l, k => forceV a fun a => forceVL l fun l => k (a :: l)
end
def forceB : Blk → (Blk → Prop) → Prop
  | .dead, k => k .dead
  | .var l, k => forceVL l fun l => k (.var l)
  | .row e t xs src, k => forceL src fun src => forceD xs fun xs => k (.row e t xs src)
def forceM : List Blk → (List Blk → Prop) → Prop
  | [], k => k []
  | a :: l, k => forceB a fun a => forceM l fun l => k (a :: l)
/-- A state, reckoned. -/
def forceS (σ : St) (k : St → Prop) : Prop := forceVL σ.tm fun tm => forceM σ.mem fun mem => forceL σ.k1 fun k1 => forceL σ.k2 fun k2 => k ⟨tm, mem, k1, k2⟩
/-! new blocks numbered by the operation that makes them -/
def isAlloc (o : Oper) : Bool := match o.op with | .alloc _ | .box .. | .makeSlice .. | .buildSlice .. => true | _ => false
def cntA : List Oper → Nat
  | [] => 0
  | o :: l => match isAlloc o with | true => cntA l + 1 | false => cntA l
def slotA : List Oper → Nat → Nat
  | [], _ => 0
  | _ :: _, 0 => 0
  | o :: l, n + 1 => match isAlloc o with | true => slotA l n + 1 | false => slotA l n
def deads : Nat → List Blk
  | 0 => []
  | n + 1 => .dead :: deads n
def renV (e s : Nat) : AV → Option AV
  | .ptr i o => match Nat.beq i e with | true => some (.ptr s o) | false => none
  | .own i => match Nat.beq i e with | true => some (.own s) | false => none
  | .vsl i a b c => match Nat.beq i e with | true => some (.vsl s a b c) | false => none
  | _ => none
def takeB : Nat → List Blk → List Blk
  | 0, _ => []
  | _ + 1, [] => []
  | n + 1, a :: l => a :: takeB n l
def moveK (e s : Nat) (K : AK) : AK := fun out m k1 k2 =>
  match out with
  | .ret v => match renV e s v, andb (Nat.blt s e) (Nat.beq (mlen m) (e + 1)) with
    | some v', true => K (.ret v') (mset (killM [s, e] [e] (takeB e m)) s (killB [s, e] [e] (mget m e))) (s :: e :: k1) (e :: k2)
    | _, _ => False
  | .panic _ => False
def mvK (ops : List Oper) (R : Option Nat) (j : Nat) (o : Oper) (m : List Blk) (K : AK) : AK :=
  match R with
  | some n0 => match isAlloc o with | true => moveK (mlen m) (n0 + slotA ops j) K | false => K
  | none => K
def insN (a : Nat) : List Nat → List Nat
  | [] => [a]
  | b :: l => match Nat.beq a b with
    | true => b :: l
    | false => match Nat.blt a b with | true => a :: b :: l | false => b :: insN a l
/-- Names in their order, each once. -/
def ordN : List Nat → List Nat
  | [] => []
  | a :: l => insN a (ordN l)
def canK (σ : St) : St := { σ with k1 := ordN σ.k1, k2 := ordN σ.k2 }
/-- A stage: the next loud one, then the quiet ones behind it. -/
def stage1 (tab : Tab) (fs : FS) (call : ACall) (ops : List Oper) (R : Option Nat) (s : Stage) (σ : St) (K : St → Prop) : Prop :=
  match oget ops s.bar with
    | some o => guarded ops o σ
        (fun σ => xopF tab fs call o (ev σ.tm) σ.mem (mvK ops R s.bar o σ.mem fun out mem k1 k2 => match out with
          | .ret v => runQ tab ops s.run (canK (after σ o.dst v mem k1 k2)) fun σ => checks tab ops s.rc σ (K σ)
          | .panic _ => False))
        (fun σ => runQ tab ops s.run { σ with tm := putT σ.tm o.dst .und } fun σ => checks tab ops s.rc σ (K σ))
    | none => False
def stages (tab : Tab) (fs : FS) (call : ACall) (ops : List Oper) (R : Option Nat) : PT → St → (St → Prop) → Prop
  | .nil, _, _ => True
  | .cons s sub rest, σ, K => match rest with
    | .nil => stage1 tab fs call ops R s σ fun σ => forceS σ fun σ => match sub with | .nil => K σ | .cons a b c => stages tab fs call ops R (.cons a b c) σ K
    | .cons a' b' c' => need (stage1 tab fs call ops R s σ fun σ => forceS σ fun σ => match sub with | .nil => K σ | .cons a b c => stages tab fs call ops R (.cons a b c) σ K) (stages tab fs call ops R (.cons a' b' c') σ K)
def stagesK (tab : Tab) (fs : FS) (call : ACall) (ops : List Oper) (R : Option Nat) (t : PT) (σ : St) (K : St → Prop) : Prop :=
  match t with
  | .nil => K σ
  | .cons a b c => stages tab fs call ops R (.cons a b c) σ K

/-- A region that draws its order. -/
def adraw0 (tab : Tab) (fs : FS) (call : ACall) (ops : List Oper) (Q : AExit → St → Prop) (σ : St) : Prop :=
  forceL (closeQ ops (rng ops.length) []) fun q => forceL (pend ops q q) fun rc => forceT (mkStages ops ops.length ops.length q) fun l =>
  match planOK ops q rc l with
  | true => match Nat.blt 1 (cntA ops) with
    | true => forceN (mlen σ.mem) fun n0 => runQ tab ops q { σ with mem := app σ.mem (deads (cntA ops)) } fun σ => checks tab ops rc σ (stagesK tab fs call ops (some n0) l σ (Q .normal))
    | false => runQ tab ops q σ fun σ => checks tab ops rc σ (stagesK tab fs call ops none l σ (Q .normal))
  | false => False

/-! ### regions in turn; what is done under a guard is told by its gate -/

abbrev Chain := List (Nat × Bool)
/-- What an operation said on which others hang: its number, its place, its own gate, what it said. -/
structure RE where
  j : Nat
  t : Nat
  c : Chain
  b : Bool
/-- What was done under a gate. -/
structure GE where
  t : Nat
  c : Chain
  v : AV

def rlook : List RE → Nat → Option RE
  | [], _ => none
  | e :: l, n => match Nat.beq e.j n with | true => some e | false => rlook l n
def rlookT : List RE → Nat → Option RE
  | [], _ => none
  | e :: l, n => match Nat.beq e.t n with | true => some e | false => rlookT l n
def glook : List GE → Nat → Option GE
  | [], _ => none
  | e :: l, n => match Nat.beq e.t n with | true => some e | false => glook l n
def rset : List RE → Nat → Bool → List RE
  | [], _, _ => []
  | e :: l, n, b => match Nat.beq e.j n with | true => { e with b := b } :: l | false => e :: rset l n b
def lit (w b : Bool) : Bool := match w with | true => b | false => notB b
def gv (R : List RE) : Chain → Bool
  | [] => true
  | (j, w) :: l => match rlook R j with
    | some e => match l with
      | [] => lit w e.b
      | _ :: _ => andB (lit w e.b) (gv R l)
    | none => false
def sameB : Bool → Bool → Bool
  | true, true => true
  | false, false => true
  | _, _ => false
def memC (j : Nat) (w : Bool) : Chain → Bool
  | [] => false
  | (i, v) :: l => match andb (Nat.beq j i) (sameB w v) with | true => true | false => memC j w l
def subC : Chain → Chain → Bool
  | [], _ => true
  | (j, w) :: l, k => match memC j w k with | true => subC l k | false => false
def gev (G : List GE) (ch : Chain) (tm : List AV) : Opd
  | .tmp t => match glook G t with
    | some e => match subC e.c ch with | true => e.v | false => .bad
    | none => lget tm t
  | x => ev tm x
def gchain (R : List RE) (o : Oper) : Option Chain :=
  match o.guard with
  | none => some []
  | some (j, w) => match rlook R j with
    | some e => some ((j, w) :: e.c)
    | none => none
def freshT (R : List RE) (G : List GE) (t : Nat) : Bool :=
  match rlookT R t, glook G t with
  | none, none => true
  | _, _ => false
def freshO (R : List RE) (G : List GE) (tm : List AV) : Option Tmp → Bool
  | none => true
  | some t => andb (Nat.blt t (llen tm)) (freshT R G t)
def guards (ops : List Oper) (i : Nat) : Bool :=
  match ops with
  | [] => false
  | o :: l => match o.guard with
    | some (j, _) => match Nat.beq i j with | true => true | false => guards l i
    | none => guards l i
def gateL (R : List RE) (ch : Chain) (qs : List Prop) : List Prop :=
  match ch with
  | [] => qs
  | _ :: _ => impL (gv R ch) qs
def putG (tm : List AV) (d : Option Tmp) (ch : Chain) (v : AV) : List AV :=
  match ch with
  | [] => putT tm d v
  | _ :: _ => putT tm d .bad
def recR (ops : List Oper) (i : Nat) (d : Option Tmp) (ch : Chain) (v : AV) (R : List RE) : List RE :=
  match d, v with
  | some t, .bool b => match guards ops i with | true => ⟨i, t, ch, b⟩ :: R | false => R
  | _, _ => R
def recG (d : Option Tmp) (ch : Chain) (v : AV) (G : List GE) : List GE :=
  match d, ch with
  | some t, _ :: _ => ⟨t, ch, v⟩ :: G
  | _, _ => G
/-- the gates of a pick's parts -/
def pickC (R : List RE) (G : List GE) (ch : Chain) (c : Operand) : Option (Bool × Chain × Chain) :=
  match c with
  | .tmp t => match rlookT R t with
    | some e0 => match rlook R e0.j with
      | some e => match andb (Nat.beq e.t t) (subC e.c ch) with
        | true => some (e.b, (e0.j, true) :: ch, (e0.j, false) :: ch)
        | false => none
      | none => none
    | none => none
  | _ => none
def gval (tab : Tab) (fs : FS) (o : Oper) (R : List RE) (G : List GE) (ch : Chain) (σ : St) : OV :=
  match o.op with
  | .pick c a b => match pickC R G ch c with
    | some (cb, ca, cb') => pickVV cb (gev G ca σ.tm a) (gev G cb' σ.tm b)
    | none => qval tab o (gev G ch σ.tm) σ.mem
  | _ => match qval tab o (gev G ch σ.tm) σ.mem with
    | some r => some r
    | none => callV fs o (gev G ch σ.tm) σ.mem

/-- A region of operations whose values are told. -/
def gopsD (tab : Tab) (fs : FS) (ops : List Oper) : List Oper → Nat → List RE → List GE → List Prop → St → Option (List Prop × St)
  | [], _, _, _, ps, σ => some (ps, σ)
  | o :: rest, i, R, G, ps, σ => match gchain R o with
    | none => none
    | some ch => match freshO R G σ.tm o.dst with
      | false => none
      | true => match gval tab fs o R G ch σ with
        | some (qs, v) => gopsD tab fs ops rest (i + 1) (recR ops i o.dst ch v R) (recG o.dst ch v G) (app ps (gateL R ch qs)) { σ with tm := putG σ.tm o.dst ch v }
        | none => none

/-! a region that draws its order and changes nothing in memory: each value reckoned out of what is ahead of it in any order -/
structure QE where
  j : Nat
  d : Option Nat
  c : Chain
  v : AV
  cl : List Nat
def qlook : List QE → Nat → List Nat
  | [], _ => []
  | e :: l, n => match Nat.beq e.j n with | true => e.cl | false => qlook l n
def qclo (L : List QE) : List Nat → List Nat
  | [] => []
  | p :: l => uniN (p :: qlook L p) (qclo L l)
def qfilt (P : List Nat) : List QE → List QE
  | [] => []
  | e :: l => match memb e.j P with | true => e :: qfilt P l | false => qfilt P l
def qR : List QE → List RE
  | [] => []
  | e :: l => match e.d, e.v with
    | some t, .bool b => ⟨e.j, t, e.c, b⟩ :: qR l
    | _, _ => qR l
def qG : List QE → List GE
  | [] => []
  | e :: l => match e.d, e.c with
    | some t, x :: c => ⟨t, x :: c, e.v⟩ :: qG l
    | _, _ => qG l
def qT (tm : List AV) : List QE → List AV
  | [] => tm
  | e :: l => match e.c with
    | [] => putT (qT tm l) e.d e.v
    | _ :: _ => qT tm l
def clrT (tm : List AV) : List Oper → List AV
  | [] => tm
  | o :: l => putT (clrT tm l) o.dst .bad
/-- A slice that is built to be handed on alone: told as what is read. -/
def newV (tab : Tab) (o : Oper) (ρ : Opd) (mem : List Blk) : OV :=
  match o.op with
  | .buildSlice t len parts => match kindOf tab t with
    | .slice e => match tlook tab e with
      | some ti => match cells? (ofV ti.zero) with
        | some z => match andb (Nat.ble (len * ti.size) 16777216) (andb (Nat.beq (llen z) ti.size) (Nat.blt 0 ti.size)), fillE ti.size (repL z len) (evp ρ parts.toList), tyOf tab 6 e with
          | true, some cells, some T => match Nat.beq ti.size (nc T), decN T len (mapAV (freeze mem 4) cells) with
            | true, some ys => ov (.view (srcsL (mapAV (freeze mem 4) cells)) T ys)
            | _, _ => none
          | _, _, _ => none
        | none => none
      | none => none
    | _ => none
  | _ => none
def isCallV (o : Oper) : Bool := match o.op with
  | .call c => match c.callee with | .value _ => true | _ => false
  | _ => false
/-- A temporary is read by calls alone, and by one at least. -/
def forCalls (t : Nat) : List Oper → Bool → Bool
  | [], b => b
  | o :: l, b => match memb t (tmpOf o.op.operands.toList) with
    | true => match isCallV o with | true => forCalls t l true | false => false
    | false => forCalls t l b
def gvalN (tab : Tab) (fs : FS) (ops : List Oper) (o : Oper) (R : List RE) (G : List GE) (ch : Chain) (σ : St) : OV :=
  match gval tab fs o R G ch σ with
  | some r => some r
  | none => match o.dst with
    | some t => match forCalls t ops false with
      | true => newV tab o (gev G ch σ.tm) σ.mem
      | false => none
    | none => none
def gopsQ (tab : Tab) (fs : FS) (ops : List Oper) (σ : St) : List Oper → Nat → List QE → List Prop → Option (List Prop × List QE)
  | [], _, L, ps => some (ps, L)
  | o :: rest, i, L, ps =>
    match gchain (qR (qfilt (qclo L (predsOf ops i)) L)) o with
    | none => none
    | some ch => match gvalN tab fs ops o (qR (qfilt (qclo L (predsOf ops i)) L)) (qG (qfilt (qclo L (predsOf ops i)) L)) ch { σ with tm := qT σ.tm (qfilt (qclo L (predsOf ops i)) L) } with
      | some (qs, v) => gopsQ tab fs ops σ rest (i + 1) (⟨i, o.dst, ch, v, qclo L (predsOf ops i)⟩ :: L) (app ps (gateL (qR (qfilt (qclo L (predsOf ops i)) L)) ch qs))
      | none => none
def qOK (ops : List Oper) (n len : Nat) : Bool :=
  allN (rng n) fun j => andb (allN (predsOf ops j) fun k => Nat.blt k j) (andb (match dstOf ops j with | some t => Nat.blt t len | none => true) (allN (rng j) fun i => nob (sameD (dstOf ops i) (dstOf ops j))))
def drawQ (tab : Tab) (fs : FS) (ops : List Oper) (σ : St) : Option (List Prop × St) :=
  match qOK ops ops.length (llen σ.tm) with
  | false => none
  | true => match gopsQ tab fs ops { σ with tm := clrT σ.tm ops } ops 0 [] [] with
    | some (ps, L) => some (ps, { σ with tm := qT (clrT σ.tm ops) L })
    | none => none
/-- A region that draws its order. -/
def adraw (tab : Tab) (fs : FS) (call : ACall) (ops : List Oper) (Q : AExit → St → Prop) (σ : St) : Prop :=
  match drawQ tab fs ops σ with
  | some (ps, σ) => needL ps (Q .normal σ)
  | none => adraw0 tab fs call ops Q σ

def splitG : Chain → List RE → (List RE → Prop) → (List RE → Prop) → Prop
  | [], R, yes, _ => yes R
  | (j, w) :: l, R, yes, no => match rlook R j with
    | some e => match w with
      | true => ifB e.b (splitG l (rset R j true) yes no) (no (rset R j false))
      | false => ifB e.b (no (rset R j true)) (splitG l (rset R j false) yes no)
    | none => False
def killG (k1 k2 : List Nat) : List GE → List GE
  | [] => []
  | e :: l => { e with v := match k1, k2 with | [], [] => e.v | _, _ => kill k1 k2 e.v } :: killG k1 k2 l
def revC : Chain → Chain → Chain
  | [], l => l
  | a :: k, l => revC k (a :: l)

/-- A region in turn. -/
def gops (tab : Tab) (fs : FS) (call : ACall) (ops : List Oper) (Q : AExit → St → Prop) : List Oper → Nat → List RE → List GE → St → Prop
  | [], _, _, _, σ => Q .normal σ
  | o :: rest, i, R, G, σ => match gchain R o with
    | none => False
    | some ch => match freshO R G σ.tm o.dst with
      | false => False
      | true => match gval tab fs o R G ch σ with
        | some (qs, v) => needL (gateL R ch qs) (gops tab fs call ops Q rest (i + 1) (recR ops i o.dst ch v R) (recG o.dst ch v G) { σ with tm := putG σ.tm o.dst ch v })
        | none => splitG (revC ch []) R
            (fun R => xop tab call o (gev G ch σ.tm) σ.mem fun out mem k1 k2 => match out with
              | .ret v => gops tab fs call ops Q rest (i + 1) (recR ops i o.dst [] v R) (killG k1 k2 G) (after σ o.dst v mem k1 k2)
              | .panic v => Q (.panic v) { tm := killF k1 k2 σ.tm, mem := mem, k1 := uni k1 σ.k1, k2 := uni k2 σ.k2 })
            (fun R => gops tab fs call ops Q rest (i + 1) R G { σ with tm := putT σ.tm o.dst .und })

/-! code without loops, exits and calls that are not told: both ways at once -/
def writesR : List Oper → List Nat
  | [] => []
  | o :: l => match o.dst with | some t => t :: writesR l | none => writesR l
def writesC : Code → List Nat
  | .region _ ops _ => writesR ops.toList
  | .seq a b => app (writesC a) (writesC b)
  | .cond _ a b => app (writesC a) (writesC b)
  | _ => []
def selTm (ws : List Nat) (c : Bool) : Nat → List AV → List AV → List AV
  | i, a :: l, b :: l' => (match memb i ws with
    | true => match selV c a b with | some v => v | none => .bad
    | false => a) :: selTm ws c (i + 1) l l'
  | _, _, _ => []
def dwp (tab : Tab) (fs : FS) : Code → St → Option (List Prop × St)
  | .skip, σ => some ([], σ)
  | .region _ ops false, σ => gopsD tab fs ops.toList ops.toList 0 [] [] [] σ
  | .seq a b, σ => match dwp tab fs a σ with
    | some (ps, σ) => match dwp tab fs b σ with
      | some (qs, σ) => some (app ps qs, σ)
      | none => none
    | none => none
  | .cond c a b, σ => match ev σ.tm c with
    | .bool v => match dwp tab fs a σ, dwp tab fs b σ with
      | some (ps, σ1), some (qs, σ2) => some (app (impL v ps) (impL (notB v) qs), { σ1 with tm := selTm (app (writesC a) (writesC b)) v 0 σ1.tm σ2.tm })
      | _, _ => none
    | _ => none
  | _, _ => none

def loopU (body : (AExit → St → Prop) → St → Prop) (Q : AExit → St → Prop) : Nat → St → Prop
  | 0, _ => False
  | n + 1, σ => body (fun e σ => match e with | .normal => loopU body Q n σ | e => Q e σ) σ

/-- What a loop is said to come to: by the number of the first region in it. -/
abbrev Summ := St → (AExit → St → Prop) → Prop
abbrev Loops := List (Nat × Summ)
def llook : Loops → Nat → Option Summ
  | [], _ => none
  | (k, i) :: l, n => match Nat.beq k n with | true => some i | false => llook l n

def firstRegion : Code → Option Nat
  | .region id _ _ => some id
  | .seq a b => match firstRegion a with | some k => some k | none => firstRegion b
  | .cond _ a b => match firstRegion a with | some k => some k | none => firstRegion b
  | .block _ c => firstRegion c
  | .loop c => firstRegion c
  | _ => none

def awp (tab : Tab) (fs : FS) (call : ACall) (L : Loops) (fuel : Nat) : Code → (AExit → St → Prop) → St → Prop
  | .skip, Q, σ => Q .normal σ
  | .label _, Q, σ => Q .normal σ
  | .ret, Q, σ => Q .ret σ
  | .exit id, Q, σ => Q (.exit id) σ
  | .seq a b, Q, σ => awp tab fs call L fuel a (fun e σ => match e with | .normal => awp tab fs call L fuel b Q σ | e => Q e σ) σ
  | .cond c a b, Q, σ => match ev σ.tm c with
    | .bool v => match dwp tab fs (.cond c a b) σ with
      | some (ps, σ) => needL ps (Q .normal σ)
      | none => ifB v (awp tab fs call L fuel a Q σ) (awp tab fs call L fuel b Q σ)
    | _ => False
  | .block id c, Q, σ => awp tab fs call L fuel c (fun e σ => match e with | .exit i => (match Nat.beq i id with | true => Q .normal σ | false => Q (.exit i) σ) | e => Q e σ) σ
  | .loop c, Q, σ => match firstRegion c with
    | some k => match llook L k with
      | some S => S σ Q
      | none => loopU (awp tab fs call L fuel c) Q fuel σ
    | none => loopU (awp tab fs call L fuel c) Q fuel σ
  | .region _ ops d, Q, σ => forceS σ fun σ => match d with
    | false => match gopsD tab fs ops.toList ops.toList 0 [] [] [] σ with
      | some (ps, σ) => needL ps (Q .normal σ)
      | none => gops tab fs call ops.toList Q ops.toList 0 [] [] σ
    | true => adraw tab fs call ops.toList Q σ
  | _, _, _ => False

def resQ (tab : Tab) (tm : List AV) (mem : List Blk) : List ResultVar → (List AV → Prop) → Prop
  | [], K => K []
  | .tmp t :: l, K => resQ tab tm mem l (fun r => K (lget tm t :: r))
  | .cell a t :: l, K => loadA tab t mem (lget tm a) (fun v => resQ tab tm mem l (fun r => K (v :: r)))
def oneA : List AV → AV
  | [v] => v
  | l => .tup l

/-- A function's text, and what is said of its loops. -/
abbrev Fns := List (Nat × Func × Loops)
def flook : Fns → Nat → Option (Func × Loops)
  | [], _ => none
  | (k, i) :: l, n => match Nat.beq k n with | true => some i | false => flook l n

abbrev Specs := List (Nat × (List AV → List Blk → AK → Prop))
def slook : Specs → Nat → Option (List AV → List Blk → AK → Prop)
  | [], _ => none
  | (k, i) :: l, n => match Nat.beq k n with | true => some i | false => slook l n

def bodyQ (tab : Tab) (fn : Func) (Q : AK) : AExit → St → Prop
  | .normal, σ => resQ tab σ.tm σ.mem fn.results.toList fun l => Q (.ret (oneA l)) σ.mem σ.k1 σ.k2
  | .ret, σ => resQ tab σ.tm σ.mem fn.results.toList fun l => Q (.ret (oneA l)) σ.mem σ.k1 σ.k2
  | .panic v, σ => Q (.panic v) σ.mem σ.k1 σ.k2
  | .exit _, _ => False

/-! What a call has made and nothing names any more is left behind. -/
mutual
def refsV (n : Nat) : AV → Bool
  | .ptr i _ => Nat.blt i n
  | .vsl i _ _ _ => Nat.blt i n
  | .own i => Nat.blt i n
  | .sub i _ => Nat.blt i n
  | .rptr i _ _ _ => Nat.blt i n
  | .vptr _ l => refsL n l
  | .agg l => refsL n l
  | .tup l => refsL n l
  | .fn _ a b => andb (refsL n a) (refsL n b)
  | .iface _ v => refsV n v
  | _ => true
def refsL (n : Nat) : List AV → Bool
  | [] => true
  | a :: l => andb (refsV n a) (refsL n l)
end
def refsM (n : Nat) : List Blk → Bool
  | [] => true
  | .var l :: m => andb (refsL n l) (refsM n m)
  | _ :: m => refsM n m
def refsO (n : Nat) : AOut → Bool
  | .ret v => refsV n v
  | .panic v => refsV n v
def mtake : Nat → List Blk → List Blk
  | 0, _ => []
  | _ + 1, [] => []
  | n + 1, a :: l => a :: mtake n l
def filtN (n : Nat) : List Nat → List Nat
  | [] => []
  | a :: l => match Nat.blt a n with | true => a :: filtN n l | false => filtN n l
def trimK (n : Nat) (Q : AK) : AK := fun out m k1 k2 =>
  match andb (refsO n out) (refsM n (mtake n m)) with
  | true => Q out (mtake n m) (filtN n k1) (filtN n k2)
  | false => Q out m k1 k2

def enterS (fn : Func) (args : List AV) (mem : List Blk) : St :=
  { tm := app args (rep .bad (fn.ntmps - llen args)), mem := mem, k1 := [], k2 := [] }

def toldV (fs : FS) (f : FuncId) (args : List AV) (mem : List Blk) : OV :=
  match Nat.ble 1000000 f with
  | true => none
  | false => match fslook fs f with
    | some F => F args mem
    | none => none
/-- A call: by what is said of it, else its text walked. -/
def acall (tab : Tab) (fs : FS) (specs : Specs) (fns : Fns) (fuel : Nat) : Nat → ACall
  | 0, _, _, _, _ => False
  | n + 1, f, args, mem, Q => match slook specs f, toldV fs f args mem with
    | some S, _ => S args mem Q
    | none, some (ps, v) => needL ps (Q (.ret v) mem [] [])
    | none, none => match flook fns f with
      | some (fn, L) => match fn.body with
        | some c => awp tab fs (acall tab fs specs fns fuel n) L fuel c (bodyQ tab fn (trimK (mlen mem) Q)) (enterS fn args mem)
        | none => False
      | none => False

/-! ### what is read alone -/
mutual
/-- A value as one sees it who has no blocks of one's own. -/
def iso : AV → AV
  | .int k n => .int k n
  | .bool b => .bool b
  | .str s => .str s
  | .nilp => .nilp
  | .nsl b => .nsl b
  | .view _ t xs => .view [] t xs
  | .vptr _ l => .vptr [] (isoL l)
  | .fn f a b => .fn f (isoL a) (isoL b)
  | .agg l => .agg (isoL l)
  | .tup l => .tup (isoL l)
  | .nilfn => .nilfn
  | .nilif => .nilif
  | _ => .bad
def isoL : List AV → List AV
  | [] => []
  | a :: l => iso a :: isoL l
end
mutual
/-- And back. -/
def back (src : List Nat) : AV → AV
  | .int k n => .int k n
  | .bool b => .bool b
  | .str s => .str s
  | .nilp => .nilp
  | .nsl b => .nsl b
  | .view _ t xs => .view src t xs
  | .vptr _ l => .vptr src (backL src l)
  | .fn f a b => .fn f (backL src a) (backL src b)
  | .agg l => .agg (backL src l)
  | .tup l => .tup (backL src l)
  | .nilfn => .nilfn
  | .nilif => .nilif
  | _ => .bad
def backL (src : List Nat) : List AV → List AV
  | [] => []
  | a :: l => back src a :: backL src l
end
def backO (src : List Nat) : AOut → AOut
  | .ret v => .ret (back src v)
  | .panic v => .panic (back src v)

def freezeO (m : List Blk) : AOut → AOut
  | .ret v => .ret (freeze m 8 v)
  | .panic v => .panic (freeze m 8 v)
/-- An answer out of what is read alone. -/
def pureF (F : List AV → OV) : FSpec := fun args m =>
  match F (isoL (mapAV (freeze m 8) args)) with
  | some (ps, v) => some (ps, back (srcsL (mapAV (freeze m 8) args)) v)
  | none => none

/-! ### functions of data: nil slices as lists with nothing in them -/
inductive Sh where
  | any | sl (t : Ty) | ag (l : List Sh)
mutual
def nrm : Sh → AV → AV
  | .sl t, .nsl _ => .view [] t []
  | .ag s, .agg l => .agg (nrmL s l)
  | .ag s, .tup l => .tup (nrmL s l)
  | .ag s, .vptr src l => .vptr src (nrmL s l)
  | _, v => v
def nrmL : List Sh → List AV → List AV
  | s :: ss, a :: l => nrm s a :: nrmL ss l
  | _, l => l
end
def isoO : AOut → AOut
  | .ret v => .ret (iso v)
  | .panic v => .panic (iso v)
def nrmO (s : Sh) : AOut → AOut
  | .ret v => .ret (nrm s v)
  | .panic v => .panic (nrm s v)
def resN (s : Sh) (m : List Blk) (o : AOut) : AOut := isoO (nrmO s (freezeO m o))
/-- Lists that are handed on, seen as what is read. -/
def frzA (m : List Blk) : List Sh → List AV → List AV
  | .sl t :: ss, a :: l => nrm (.sl t) (freeze m 2 a) :: frzA m ss l
  | _ :: ss, a :: l => a :: frzA m ss l
  | [], l => l
  | _ :: _, [] => []
def specV (shs : List Sh) (S : List AV → List Blk → AK → Prop) : List AV → List Blk → AK → Prop := fun args m K => S (frzA m shs args) m K
def pureN (shs : List Sh) (F : List AV → OV) : FSpec := fun args m =>
  match F (isoL (nrmL shs (mapAV (freeze m 8) args))) with
  | some (ps, v) => some (ps, back (srcsL (nrmL shs (mapAV (freeze m 8) args))) v)
  | none => none

/-! ### what a call made, seen as what is read -/
mutual
def cutV (n : Nat) : AV → AV
  | .view src t xs => .view (filtN n src) t xs
  | .vptr src l => .vptr (filtN n src) (cutL n l)
  | .ptr i o => match Nat.blt i n with | true => .ptr i o | false => .bad
  | .vsl i a b c => match Nat.blt i n with | true => .vsl i a b c | false => .bad
  | .own i => match Nat.blt i n with | true => .own i | false => .bad
  | .sub i k => match Nat.blt i n with | true => .sub i k | false => .bad
  | .rptr i t a b => match Nat.blt i n with | true => .rptr i t a b | false => .bad
  | .agg l => .agg (cutL n l)
  | .tup l => .tup (cutL n l)
  | .fn f a b => .fn f (cutL n a) (cutL n b)
  | .iface t v => .iface t (cutV n v)
  | v => v
def cutL (n : Nat) : List AV → List AV
  | [] => []
  | a :: l => cutV n a :: cutL n l
end
def frz1 (n : Nat) (m : List Blk) (v : AV) : AV := match refsV n v with | true => v | false => freeze m 8 v
def frzR (n : Nat) (m : List Blk) : AV → AV
  | .tup l => .tup (mapAV (frz1 n m) l)
  | v => frz1 n m v
def subK : List Nat → List Nat → Bool
  | [], _ => true
  | a :: k, l => match memb a l with | true => subK k l | false => false
def frzK (n : Nat) (rs : Sh) (K1 K2 : List Nat) (Q : AK) : AK := fun out m k1 k2 =>
  match andb (refsM n (mtake n m)) (andb (subK (filtN n k1) K1) (subK (filtN n k2) K2)) with
  | true => match out with
    | .ret v => Q (.ret (cutV n (nrm rs (frzR n m v)))) (mtake n m) K1 K2
    | .panic _ => False
  | false => False

/-! ### a call sees no more than what it is handed -/
mutual
def refsA : AV → List Nat
  | .ptr i _ => [i]
  | .vsl i _ _ _ => [i]
  | .own i => [i]
  | .sub i _ => [i]
  | .rptr i _ _ _ => [i]
  | .vptr _ l => refsAL l
  | .agg l => refsAL l
  | .tup l => refsAL l
  | .fn _ a b => app (refsAL a) (refsAL b)
  | .iface _ v => refsA v
  | _ => []
def refsAL : List AV → List Nat
  | [] => []
  | a :: l => app (refsA a) (refsAL l)
end
def blkRefs : Blk → List Nat
  | .var l => refsAL l
  | _ => []
def blkSrcs : Blk → List Nat
  | .var l => srcsL l
  | .row _ _ _ src => src
  | .dead => []
def reachB (m : List Blk) : Nat → List Nat → List Nat → List Nat
  | 0, _, seen => seen
  | _ + 1, [], seen => seen
  | n + 1, i :: todo, seen => match memb i seen with
    | true => reachB m n todo seen
    | false => reachB m n (app todo (blkRefs (mget m i))) (app seen [i])
def srcsM (m : List Blk) : List Nat → List Nat
  | [] => []
  | i :: l => uniN (blkSrcs (mget m i)) (srcsM m l)
def idx : List Nat → Nat → Option Nat
  | [], _ => none
  | a :: l, i => match Nat.beq a i with
    | true => some 0
    | false => match idx l i with | some j => some (j + 1) | none => none
def iget : List Nat → Nat → Option Nat
  | [], _ => none
  | a :: _, 0 => some a
  | _ :: l, n + 1 => iget l n
def nlen : List Nat → Nat
  | [] => 0
  | _ :: l => nlen l + 1
def mapN (f : Nat → Nat) : List Nat → List Nat
  | [] => []
  | a :: l => f a :: mapN f l
def dnS (is : List Nat) : List Nat → List Nat
  | [] => []
  | i :: l => match idx is i with | some j => j :: dnS is l | none => dnS is l
mutual
def dn (is : List Nat) : AV → AV
  | .ptr i o => match idx is i with | some j => .ptr j o | none => .bad
  | .vsl i a b c => match idx is i with | some j => .vsl j a b c | none => .bad
  | .own i => match idx is i with | some j => .own j | none => .bad
  | .sub i k => match idx is i with | some j => .sub j k | none => .bad
  | .rptr i t a b => match idx is i with | some j => .rptr j t a b | none => .bad
  | .view src t xs => .view (dnS is src) t xs
  | .vptr src l => .vptr (dnS is src) (dnL is l)
  | .agg l => .agg (dnL is l)
  | .tup l => .tup (dnL is l)
  | .fn f a b => .fn f (dnL is a) (dnL is b)
  | .iface t v => .iface t (dn is v)
  | v => v
def dnL (is : List Nat) : List AV → List AV
  | [] => []
  | a :: l => dn is a :: dnL is l
end
def dnB (is : List Nat) : Blk → Blk
  | .var l => .var (dnL is l)
  | .row e t xs src => .row e t xs (dnS is src)
  | .dead => .dead
def dnM (m : List Blk) (is : List Nat) : List Nat → List Blk
  | [] => []
  | i :: l => dnB is (mget m i) :: dnM m is l
def upI (is : List Nat) (n : Nat) (j : Nat) : Nat := match iget is j with | some i => i | none => n + (j - nlen is)
mutual
def up (f : Nat → Nat) (srcs : List Nat) : AV → AV
  | .ptr i o => .ptr (f i) o
  | .vsl i a b c => .vsl (f i) a b c
  | .own i => .own (f i)
  | .sub i k => .sub (f i) k
  | .rptr i t a b => .rptr (f i) t a b
  | .view src t xs => .view (uniN (mapN f src) srcs) t xs
  | .vptr src l => .vptr (uniN (mapN f src) srcs) (upL f srcs l)
  | .agg l => .agg (upL f srcs l)
  | .tup l => .tup (upL f srcs l)
  | .fn g a b => .fn g (upL f srcs a) (upL f srcs b)
  | .iface t v => .iface t (up f srcs v)
  | v => v
def upL (f : Nat → Nat) (srcs : List Nat) : List AV → List AV
  | [] => []
  | a :: l => up f srcs a :: upL f srcs l
end
/-- elements that point nowhere -/
def flatT : Ty → Bool
  | .list _ => false
  | .prod a b => andb (flatT a) (flatT b)
  | _ => true
def srcT (t : Ty) (src : List Nat) : List Nat := match flatT t with | true => [] | false => src
def upB (f : Nat → Nat) (srcs : List Nat) : Blk → Blk
  | .var l => .var (upL f srcs l)
  | .row e t xs src => .row e t xs (srcT t (uniN (mapN f src) srcs))
  | .dead => .dead
def upO (f : Nat → Nat) (srcs : List Nat) : AOut → AOut
  | .ret v => .ret (up f srcs v)
  | .panic v => .panic (up f srcs v)
def upM (f : Nat → Nat) (srcs : List Nat) : List Blk → List Blk
  | [] => []
  | a :: l => upB f srcs a :: upM f srcs l
def mdrop : Nat → List Blk → List Blk
  | 0, l => l
  | _ + 1, [] => []
  | n + 1, _ :: l => mdrop n l
/-- the blocks behind a call: those that it was handed as it left them, the others as they were -/
def joinM (f : Nat → Nat) (srcs is k1 k2 : List Nat) (m' : List Blk) : Nat → List Blk → List Blk
  | _, [] => upM f srcs (mdrop (nlen is) m')
  | i, b :: l => (match idx is i with | some j => upB f srcs (mget m' j) | none => killB k1 k2 b) :: joinM f srcs is k1 k2 m' (i + 1) l
def allLt (n : Nat) : List Nat → Bool
  | [] => true
  | i :: l => match Nat.blt i n with | true => allLt n l | false => false
def nodupL : List Nat → Bool
  | [] => true
  | a :: l => match memb a l with | true => false | false => nodupL l
/-- What is said of a function by what it is handed alone. -/
def frameS (S : List AV → List Blk → AK → Prop) : List AV → List Blk → AK → Prop := fun args m K =>
  let is := reachB m 40 (refsAL args) []
  let srcs := uniN (srcsL args) (srcsM m is)
  let f := upI is (mlen m)
  match andb (allLt (mlen m) is) (nodupL is) with
  | true => S (dnL is args) (dnM m is is) fun out m' k1 k2 => K (upO f srcs out) (joinM f srcs is (mapN f k1) (mapN f k2) m' 0 m) (mapN f k1) (mapN f k2)
  | false => False

/-! ### loops told by what stays so -/

def loopsOf : Code → List Code
  | .seq a b => loopsOf a ++ loopsOf b
  | .cond _ a b => loopsOf a ++ loopsOf b
  | .block _ c => loopsOf c
  | .loop c => c :: loopsOf c
  | _ => []

def subN : List Nat → List Nat → Bool
  | [], _ => true
  | a :: k, l => match memb a l with | true => subN k l | false => false
/-- A state under another one: what is not asked of the other one is left. n: how many blocks there are. -/
def leT (n n' : Nat) (x y : AV) (K : Prop) : Prop :=
  match y with
    | .bad => K
    | .own i => match x with
      | .nsl true => match andb (Nat.ble n i) (Nat.blt i n') with | true => K | false => False
      | x => sameK x (.own i) K
    | .view s' t' ys => match x with
      | .view s t xs => match subN s s', castL t t' xs with
        | true, some xs => eqD xs ys K
        | _, _ => False
      | .nsl _ => eqD [] ys K
      | _ => False
    | y => sameK x y K
def leTs (n n' : Nat) : List AV → List AV → Prop → Prop
  | [], [], K => K
  | a :: l, b :: l', K => leT n n' a b (leTs n n' l l' K)
  | _, _, _ => False
def leBk (n n' : Nat) : Blk → Blk → Prop → Prop
  | .var l, .var l', K => leTs n n' l l' K
  | _, .dead, K => K
  | .row e t xs s, .row e' t' ys s', K => match Nat.beq e e', subN s s', castL t t' xs with
    | true, true, some xs => eqD xs ys K
    | _, _, _ => False
  | _, _, _ => False
/-- blocks that are new in the other state: rows with nothing in them -/
def newM (k1 : List Nat) (i : Nat) : List Blk → Prop → Prop
  | [], K => K
  | .row _ t xs _ :: l, K => match memb i k1 with | true => eqD xs ([] : List (den t)) (newM k1 (i + 1) l K) | false => False
  | .dead :: l, K => match memb i k1 with | true => newM k1 (i + 1) l K | false => False
  | _ :: _, _ => False
/-- blocks that the other state has no more -/
def oldM (k1 : List Nat) (i : Nat) : List Blk → Prop → Prop
  | [], K => K
  | _ :: l, K => match memb i k1 with | true => oldM k1 (i + 1) l K | false => False
def leM (n n' : Nat) (k1 : List Nat) : Nat → List Blk → List Blk → Prop → Prop
  | _, [], [], K => K
  | i, a :: l, b :: l', K => leBk n n' a b (leM n n' k1 (i + 1) l l' K)
  | i, [], b :: l', K => newM k1 i (b :: l') K
  | i, a :: l, [], K => oldM k1 i (a :: l) K
def leS0 (σ σ' : St) (K : Prop) : Prop :=
  let n := mlen σ.mem
  let n' := mlen σ'.mem
  match andb (subN σ.k1 σ'.k1) (andb (subN σ.k2 σ'.k2) (andb (orb (Nat.ble n' n) (andb (refsL n σ.tm) (refsM n σ.mem))) (orb (Nat.ble n n') (andb (refsL n' σ'.tm) (refsM n' σ'.mem))))) with
  | true => leTs n n' σ.tm σ'.tm (leM n n' σ'.k1 0 σ.mem σ'.mem K)
  | false => False

/-- Blocks left behind: nothing names them any more, nor what lay in them. -/
def cutB (n : Nat) : Blk → Blk
  | .dead => .dead
  | .var l => .var (cutL n l)
  | .row e t xs src => .row e t xs (filtN n src)
def cutM (n : Nat) : List Blk → List Blk
  | [] => []
  | a :: l => cutB n a :: cutM n l
def rngFrom : Nat → Nat → List Nat
  | 0, _ => []
  | k + 1, i => i :: rngFrom k (i + 1)
def dropS (n : Nat) (σ : St) : St := { tm := cutL n σ.tm, mem := cutM n (mtake n σ.mem), k1 := app (rngFrom (mlen σ.mem - n) n) σ.k1, k2 := σ.k2 }
def leS (σ σ' : St) (K : Prop) : Prop :=
  match Nat.blt (mlen σ'.mem) (mlen σ.mem) with
  | true => leS0 (dropS (mlen σ'.mem) σ) σ' K
  | false => leS0 σ σ' K
/-- The loop of a text whose first region has a number. -/
def findLoop : List Code → Nat → Code
  | [], _ => .skip
  | c :: l, k => match firstRegion c with
    | some j => match Nat.beq j k with | true => c | false => findLoop l k
    | none => findLoop l k
def bodyOf (fn : Func) : Code := match fn.body with | some c => c | none => .skip
def loopAt (fn : Func) (k : Nat) : Code := findLoop (loopsOf (bodyOf fn)) k
def firsts : List Code → List Nat
  | [] => []
  | c :: l => match firstRegion c with | some k => k :: firsts l | none => firsts l
def nodupN : List Nat → Bool
  | [] => true
  | a :: l => match memb a l with | true => false | false => nodupN l
/-- What the body of a loop is to come to. -/
def bodyK {X : Type} (shape : X → St) (sx : AExit → X → St) (Inv : X → Prop) (meas : X → Nat) (n : Nat) (QX : AExit → X → Prop) : AExit → St → Prop
  | .normal, σ => ∃ y, leS σ (shape y) (Inv y ∧ meas y < n)
  | .panic _, _ => False
  | e, σ => ∃ y, leS σ (sx e y) (QX e y)

/-! what a state says, read out of it -/
def gI (σ : St) (t : Nat) : Int := match lget σ.tm t with | .int _ n => n | _ => 0
def gB (σ : St) (t : Nat) : Bool := match lget σ.tm t with | .bool b => b | _ => false
def gS (σ : St) (t : Nat) : List UInt8 := match lget σ.tm t with | .str s => s | _ => []
def gV (ty : Ty) (σ : St) (t : Nat) : List (den ty) := match lget σ.tm t with
  | .view _ t' xs => match castL t' ty xs with | some ys => ys | none => []
  | _ => []
def cellOf (σ : St) (i o : Nat) : AV := match mget σ.mem i with | .var l => lget l o | _ => .bad
def cI (σ : St) (i o : Nat) : Int := match cellOf σ i o with | .int _ n => n | _ => 0
def cB (σ : St) (i o : Nat) : Bool := match cellOf σ i o with | .bool b => b | _ => false
def cS (σ : St) (i o : Nat) : List UInt8 := match cellOf σ i o with | .str s => s | _ => []
def cV (ty : Ty) (σ : St) (i o : Nat) : List (den ty) := match cellOf σ i o with
  | .view _ t' xs => match castL t' ty xs with | some ys => ys | none => []
  | _ => []
/-- what a function value has taken along -/
def capV (ty : Ty) (σ : St) (t j : Nat) : List (den ty) := match lget σ.tm t with
  | .fn _ _ cap => match lget cap j with
    | .vptr _ [.view _ t' xs] => match castL t' ty xs with | some ys => ys | none => []
    | _ => []
  | _ => []
def capI (σ : St) (t j : Nat) : Int := match lget σ.tm t with
  | .fn _ _ cap => match lget cap j with
    | .vptr _ (.int _ n :: _) => n
    | _ => 0
  | _ => 0
def rV (ty : Ty) (σ : St) (i : Nat) : List (den ty) := match mget σ.mem i with
  | .row _ t' xs _ => match castL t' ty xs with | some ys => ys | none => []
  | _ => []

def elook {X : Type} : List (Nat × (X → Prop)) → Nat → X → Prop
  | [], _, _ => False
  | (k, P) :: l, n, y => match Nat.beq k n with | true => P y | false => elook l n y
/-- What holds behind a loop: of each exit, and of a return. -/
structure LEnds (X : Type) where
  exits : List (Nat × (X → Prop))
  ret : X → Prop
def endK {X : Type} (D : LEnds X) : AExit → X → Prop
  | .exit id, y => elook D.exits id y
  | .ret, y => D.ret y
  | _, _ => False
/-- What the body of a loop is to come to. -/
def bodyN {X : Type} (shape : X → St) (sx : AExit → X → St) (nx : St → X) (Inv : X → Prop) (meas : X → Nat) (n : Nat) (D : LEnds X) : AExit → St → Prop
  | .normal, σ => leS σ (shape (nx σ)) (Inv (nx σ) ∧ meas (nx σ) < n)
  | .panic _, _ => False
  | .exit id, σ => leS σ (sx (.exit id) (nx σ)) (elook D.exits id (nx σ))
  | .ret, σ => leS σ (sx .ret (nx σ)) (D.ret (nx σ))
def exitsQ {X : Type} (sx : AExit → X → St) (Q : AExit → St → Prop) : List (Nat × (X → Prop)) → Prop
  | [] => True
  | (k, P) :: l => (∀ y, P y → Q (.exit k) (sx (.exit k) y)) ∧ exitsQ sx Q l
/-- A loop told by its shape: what is asked ahead of it, what holds behind it. -/
def summN {X : Type} (shape : X → St) (sx : AExit → X → St) (nx : St → X) (Pre : X → Prop) (D : X → LEnds X) : Summ := fun σ Q =>
  leS σ (shape (nx σ)) (Pre (nx σ) ∧ exitsQ sx Q (D (nx σ)).exits ∧ ∀ y, (D (nx σ)).ret y → Q .ret (sx .ret y))

/-- Temporaries that are lists, seen as what is read. -/
def frzT (m : List Blk) : List Nat → List AV → List AV
  | [], l => l
  | t :: ts, l => frzT m ts (lset l t (freeze m 2 (lget l t)))
def preV (mask : List Nat) (S : Summ) : Summ := fun σ Q => S { σ with tm := frzT σ.mem mask σ.tm } Q
/-- Temporaries named by number, the others not known. -/
def setL : List AV → List (Nat × AV) → List AV
  | l, [] => l
  | l, (i, v) :: r => setL (lset l i v) r

end Go.Proofs.Ytkdemkkepepbdaa.Sx
