/- An evaluator for value-only Go code: what it computes with. It says nothing by itself of a run; the text behind it does. -/
import Derived.Below
import Derived.Orders
import Derived.RowKit3
import Derived.ProofKit
namespace Go.Proofs.YtcnapkdccjibpaaGreatDoor.Eng
open Go Go.RowKit
set_option linter.unusedVariables false

/-- A plain cell: it leads to no memory. -/
inductive PC where
  | int (k : IntKind) (n : Int)
  | bool (b : Bool)
  | str (s : ByteArray)
  | fn (f : Nat)
  /-- a slice that came in (its address is told), or none at all -/
  | sl (a : Option Addr) (n c : Nat)
  /-- no function -/
  | nf
  /-- a pointer to nothing -/
  | np

/-- A pointer: into an own box, to a given cell, or to a told place. -/
inductive Pt where
  | own (i o : Nat)
  | giv (j : Nat)
  | abs (a : Addr)

inductive Cl where
  | p (x : PC)
  | ptr (q : Pt)
  | clo (f : Nat) (caps : List Pt)
  /-- an own slice: its box, where it begins, its length, an element's cells -/
  | row (i o n z : Nat)
  /-- an own slice of length and capacity 0 -/
  | emp (i o : Nat)

inductive AV where
  | c (x : Cl)
  | agg (xs : List PC)

inductive SV where
  | v (x : AV)
  | tup (xs : List AV)

def PC.conc : PC → Value
  | .int k n => .int k n
  | .bool b => .bool b
  | .str s => .string s
  | .fn f => .func (.func f) #[] #[]
  | .sl a n c => .slice a n c
  | .nf => .nilFunc
  | .np => .pointer none

/-- The block of memory that a box stands for: its number, how many cells it has; is it told? -/
structure Blk where
  b : Nat
  k : Nat
  ok : Bool
def blk (ρ : List Blk) (i : Nat) : Blk := ρ.getD i ⟨0, 0, false⟩

def Pt.addr (ρ : List Blk) (G : List Addr) : Pt → Addr
  | .own i o => ⟨(blk ρ i).b, o, none⟩
  | .giv j => G.getD j default
  | .abs a => a

def Pt.conc (ρ : List Blk) (G : List Addr) (q : Pt) : Value := .pointer (some (q.addr ρ G))

def Cl.conc (ρ : List Blk) (G : List Addr) : Cl → Value
  | .p x => x.conc
  | .ptr q => q.conc ρ G
  | .clo f caps => .func (.func f) #[] (caps.map (Pt.conc ρ G)).toArray
  | .row i o n z => .slice (some ⟨(blk ρ i).b, o, none⟩) n (((blk ρ i).k - o) / z)
  | .emp i o => .slice (some ⟨(blk ρ i).b, o, none⟩) 0 0

def aggOf (xs : List PC) : Value := .agg (xs.map PC.conc).toArray

def AV.conc (ρ : List Blk) (G : List Addr) : AV → Value
  | .c x => x.conc ρ G
  | .agg xs => aggOf xs

def SV.conc (ρ : List Blk) (G : List Addr) : SV → Value
  | .v x => x.conc ρ G
  | .tup xs => .tuple (xs.map (AV.conc ρ G)).toArray

def Pt.wf (ρ : List Blk) : Pt → Prop
  | .own i _ => (blk ρ i).ok = true
  | .giv _ => True
  | .abs _ => True
def Cl.wf (ρ : List Blk) : Cl → Prop
  | .p _ => True
  | .ptr q => q.wf ρ
  | .clo _ caps => ∀ q ∈ caps, q.wf ρ
  | .row i _ _ _ => (blk ρ i).ok = true
  | .emp i _ => (blk ρ i).ok = true
def AV.wf (ρ : List Blk) : AV → Prop
  | .c x => x.wf ρ
  | .agg _ => True
def SV.wf (ρ : List Blk) : SV → Prop
  | .v x => x.wf ρ
  | .tup xs => ∀ x ∈ xs, x.wf ρ

/-- What is known of a type. -/
structure TD where
  agg : Bool
  size : Nat
  /-- the zero value's cells, if it is told (an array's or a slice's element's, where 'cells' holds and it is no array) -/
  zero : List PC := []
  zok : Bool := false
  ik : Option IntKind := none
  ez : PC := .bool false
  /-- of a struct: where its fields begin (all of them are plain cells) -/
  fields : List Nat := []
  /-- of an array or a slice of plain cells: true -/
  cells : Bool := false
  len : Nat := 0
  /-- of a struct of integers that are compared: their kinds -/
  eqk : List IntKind := []
  isBool : Bool := false
  isStr : Bool := false
  /-- of a slice of bytes: true -/
  byt : Bool := false
  /-- of a slice of plain cells: true; an element's zero cells -/
  row : Bool := false
  ez1 : List PC := []

abbrev Tab := Nat → Option TD
/-- What is told of calls: what must hold of the arguments, the result, new boxes behind it. -/
abbrev Env := List (Nat × Option SV)
/-- The own boxes; an empty one says nothing. -/
abbrev Heap := List (List PC)
/-- What is told of a function that turns boxes: the given memory, the arguments, the boxes; what must hold, the result, the boxes behind it. -/
abbrev MT := (Addr → Option PC) → List AV → Heap → Option (Prop × SV × Heap)
/-- The box that a list of arguments leads to. -/
def headBox : List AV → Option Nat
  | .c (.ptr (.own b 0)) :: _ => some b
  | .c (.row i _ _ _) :: _ => some i
  | .c (.emp i _) :: _ => some i
  | .c (.p _) :: _ => some 1000000
  | _ => none
/-- It turns no box but the one that its first argument leads to. -/
def OneM (M : MT) : Prop := ∀ m args h p r h', M m args h = some (p, r, h') → ∃ b, headBox args = some b ∧ ∀ i : Nat, i ≠ b → h'[i]? = h[i]?
structure Orc where
  f : Nat → List AV → List PC → Option (Prop × SV × List (List PC))
  m : Nat → Option MT
  one : Nat → Bool
  ok : ∀ k M, m k = some M → one k = true → OneM M
  brute : Bool
/-- What is given: cells that are counted, and memory. -/
structure Gv where
  l : List PC
  m : Addr → Option PC

structure St where
  env : Env
  heap : Heap

def look : Env → Nat → Option SV
  | [], _ => none
  | (t', v) :: r, t => if t = t' then v else look r t

def ofValue : Value → Option SV
  | .int k n => some (.v (.c (.p (.int k n))))
  | .bool b => some (.v (.c (.p (.bool b))))
  | .string s => some (.v (.c (.p (.str s))))
  | .slice none 0 0 => some (.v (.c (.p (.sl none 0 0))))
  | .nilFunc => some (.v (.c (.p .nf)))
  | .pointer none => some (.v (.c (.p .np)))
  | _ => none

def opd (env : Env) : Operand → Option SV
  | .tmp t => look env t
  | .const v => ofValue v
  | .func f => some (.v (.c (.p (.fn f))))
  | .global _ => none

def opdA (env : Env) (x : Operand) : Option AV :=
  match opd env x with
  | some (.v a) => some a
  | _ => none

def opdP (env : Env) (x : Operand) : Option PC :=
  match opd env x with
  | some (.v (.c (.p a))) => some a
  | _ => none

def sp (x : PC) : SV := .v (.c (.p x))

/-- An operator on two integers of one kind. -/
def intBin (op : BinOp) (k : IntKind) (a b : Int) : Option PC :=
  match op with
  | .add => some (.int k (k.wrap (a + b)))
  | .sub => some (.int k (k.wrap (a - b)))
  | .mul => some (.int k (k.wrap (a * b)))
  | .quo => if b = 0 then none else some (.int k (k.wrap (a.tdiv b)))
  | .rem => if b = 0 then none else some (.int k (a.tmod b))
  | .and => some (.int k (k.wrap (BitVec.ofInt k.bits a &&& BitVec.ofInt k.bits b).toNat))
  | .or => some (.int k (k.wrap (BitVec.ofInt k.bits a ||| BitVec.ofInt k.bits b).toNat))
  | .xor => some (.int k (k.wrap (BitVec.ofInt k.bits a ^^^ BitVec.ofInt k.bits b).toNat))
  | .eql => some (.bool (a == b))
  | .neq => some (.bool (a != b))
  | .lss => some (.bool (decide (a < b)))
  | .leq => some (.bool (decide (a ≤ b)))
  | .gtr => some (.bool (decide (a > b)))
  | .geq => some (.bool (decide (a ≥ b)))
  | _ => none

def shBin (op : BinOp) (k : IntKind) (a b : Int) : Option PC :=
  match op with
  | .shl => if b < 0 then none else some (.int k (k.wrap (a * 2 ^ (min b.toNat k.bits))))
  | .shr => if b < 0 then none else some (.int k (a.fdiv (2 ^ (min b.toNat k.bits))))
  | _ => none

def isSh : BinOp → Bool
  | .shl | .shr => true
  | _ => false

def ints : List IntKind → List PC → Option (List Int)
  | [], [] => some []
  | k :: ks, .int k' n :: r => if k = k' then (match ints ks r with
    | some l => some (n :: l)
    | none => none) else none
  | _, _ => none

def bin (T : Tab) (op : BinOp) (t : Nat) (x y : AV) : Option PC :=
  match x, y with
  | .c (.p (.int k a)), .c (.p (.int k' b)) => if isSh op then shBin op k a b else if k = k' then intBin op k a b else none
  | .c (.p (.bool a)), .c (.p (.bool b)) =>
    match T t with
    | some d => if d.isBool then (match op with | .eql => some (.bool (a == b)) | .neq => some (.bool (a != b)) | _ => none) else none
    | none => none
  | .c (.p (.str a)), .c (.p (.str b)) =>
    match op with
    | .add => if a.size + b.size ≤ 9223372036854775807 then some (.str (a ++ b)) else none
    | .eql => some (.bool (decide (a.data.toList = b.data.toList)))
    | .neq => some (.bool (!decide (a.data.toList = b.data.toList)))
    | _ => none
  | .agg xs, .agg ys =>
    match T t with
    | some d => if d.eqk = [] then none else match ints d.eqk xs, ints d.eqk ys with
      | some l, some m => (match op with | .eql => some (.bool (l == m)) | .neq => some (.bool (l != m)) | _ => none)
      | _, _ => none
    | none => none
  | .c (.row _ _ _ _), .c (.p (.sl none 0 0)) =>
    match T t with
    | some d => if d.row then (match op with | .eql => some (.bool false) | .neq => some (.bool true) | _ => none) else none
    | none => none
  | _, _ => none

def un (op : UnOp) (x : PC) : Option PC :=
  match op, x with
  | .neg, .int k n => some (.int k (k.wrap (0 - n)))
  | .xor, .int k n => some (.int k (k.wrap (BitVec.ofInt k.bits (if k.signed then -1 else k.max) ^^^ BitVec.ofInt k.bits n).toNat))
  | .not, .bool b => some (.bool !b)
  | _, _ => none

/-- The content of a value's cells. -/
def cellsOf : AV → Option (List PC)
  | .c (.p x) => some [x]
  | .agg xs => some xs
  | _ => none

def splice (cs : List PC) (o : Nat) (new : List PC) : List PC := cs.take o ++ new ++ cs.drop (o + new.length)

/-- Cells of a literal: 'parts' are put at their places. -/
def fillP (place : Nat → Option Nat) (cells : List PC) : List (Nat × PC) → Option (List PC)
  | [] => some cells
  | (i, x) :: r => match place i with
    | some o => if o < cells.length then fillP place (cells.set o x) r else none
    | none => none

def partsP (env : Env) : List (Nat × Operand) → Option (List (Nat × PC))
  | [] => some []
  | (i, x) :: r => match opdP env x, partsP env r with
    | some c, some l => some ((i, c) :: l)
    | _, _ => none

def loadCell (h : Heap) (g : Gv) : Pt → Option PC
  | .own i o => (h[i]?).bind (·[o]?)
  | .giv j => g.l[j]?
  | .abs a => g.m a

def trPts (h : Heap) (g : Gv) (acc : List PC) : List Pt → Option (List Pt × List PC)
  | [] => some ([], acc)
  | q :: r => match loadCell h g q with
    | some c => match trPts h g (acc ++ [c]) r with
      | some (qs, acc') => some (.giv acc.length :: qs, acc')
      | none => none
    | none => none

/-- Arguments as the callee sees them: own boxes become given cells. -/
def trArgs (h : Heap) (g : Gv) (acc : List PC) : List AV → Option (List AV × List PC)
  | [] => some ([], acc)
  | .agg xs :: r => match trArgs h g acc r with
    | some (l, a) => some (.agg xs :: l, a)
    | none => none
  | .c (.p x) :: r => match trArgs h g acc r with
    | some (l, a) => some (.c (.p x) :: l, a)
    | none => none
  | .c (.clo f caps) :: r => match trPts h g acc caps with
    | some (qs, acc') => match trArgs h g acc' r with
      | some (l, a) => some (.c (.clo f qs) :: l, a)
      | none => none
    | none => none
  | .c (.ptr q) :: r => match trPts h g acc [q] with
    | some (qs, acc') => match trArgs h g acc' r with
      | some (l, a) => some (qs.map (fun q => .c (.ptr q)) ++ l, a)
      | none => none
    | none => none
  | _ => none

def Pt.up (n : Nat) : Pt → Pt
  | .own i o => .own (n + i) o
  | .giv j => .giv j
  | .abs a => .abs a
def Cl.up (n : Nat) : Cl → Cl
  | .p x => .p x
  | .ptr q => .ptr (q.up n)
  | .clo f caps => .clo f (caps.map (Pt.up n))
  | .row i o k z => .row (n + i) o k z
  | .emp i o => .emp (n + i) o
def AV.up (n : Nat) : AV → AV
  | .c x => .c (x.up n)
  | .agg xs => .agg xs
def SV.up (n : Nat) : SV → SV
  | .v x => .v (x.up n)
  | .tup xs => .tup (xs.map (AV.up n))

def argsA (env : Env) : List Operand → Option (List AV)
  | [] => some []
  | x :: r => match opdA env x, argsA env r with
    | some a, some l => some (a :: l)
    | _, _ => none

/-- A call: the function's number and what it captured. -/
def callee : AV → Option (Nat × List Pt)
  | .c (.p (.fn f)) => some (f, [])
  | .c (.clo f caps) => some (f, caps)
  | _ => none

def grow (h : Heap) (r : SV) : List (List PC) → SV × Heap
  | [] => (r, h)
  | b :: bs => (r.up h.length, h ++ (b :: bs))

open Classical in
noncomputable def callF (O : Orc) (h : Heap) (g : Gv) (f : Nat) (args : List AV) : Option (SV × Heap) :=
  match O.m f with
  | some M => match M g.m args h with
    | some (pre, r, h') => if pre then some (r, h') else none
    | none => none
  | none => match trArgs h g [] args with
    | some (l, g') => match O.f f l g' with
      | some (pre, r, new) => if pre then some (grow h r new) else none
      | none => none
    | none => none

def foldPC (f : PC → PC → Option PC) : PC → List PC → Option PC
  | x, [] => some x
  | x, y :: r => match f x y with
    | some z => foldPC f z r
    | none => none

def max2 : PC → PC → Option PC
  | .int k x, .int _ y => some (.int k (if y > x then y else x))
  | _, _ => none
def min2 : PC → PC → Option PC
  | .int k x, .int _ y => some (.int k (if y < x then y else x))
  | _, _ => none

def allP : List AV → Option (List PC)
  | [] => some []
  | .c (.p x) :: r => (allP r).map (x :: ·)
  | _ => none

/-- How long a slice or a text is. -/
def lenF (d : TD) : AV → Option Nat
  | .c (.row _ _ n _) => if d.row then some n else none
  | .c (.emp _ _) => if d.row then some 0 else none
  | .c (.p (.sl _ n _)) => if d.row then some n else none
  | .c (.p (.str s)) => if d.isStr then some s.size else none
  | _ => none
def builtinF (b : Builtin) (args : List AV) : Option PC :=
  match b with
  | .max => match allP args with
    | some (x :: r) => foldPC max2 x r
    | _ => none
  | .min => match allP args with
    | some (x :: r) => foldPC min2 x r
    | _ => none
  | _ => none

/-- The cells of a slice. -/
def cellsAt (m : Addr → Option PC) (a : Addr) : Nat → Nat → Option (List PC)
  | _, 0 => some []
  | k, n + 1 => match m (a.add k), cellsAt m a (k + 1) n with
    | some c, some l => some (c :: l)
    | _, _ => none
def rowCells (z : Nat) (h : Heap) (m : Addr → Option PC) : AV → Option (Nat × List PC)
  | .c (.row i o n z') => if z' = z then match h[i]? with
      | some cs => if o + n * z ≤ cs.length ∧ cs ≠ [] then some (n, (cs.drop o).take (n * z)) else none
      | none => none
    else none
  | .c (.p (.sl (some a) n _)) => (cellsAt m a 0 (n * z)).map fun l => (n, l)
  | .c (.emp _ _) => some (0, [])
  | _ => none
/-- The bytes that cells hold. -/
def bytesC : List PC → Option (List UInt8)
  | [] => some []
  | .int .u8 v :: r => match bytesC r with
    | some l => some (UInt8.ofNat v.toNat :: l)
    | none => none
  | _ => none
/-- Types of integers: a conversion to one of them reads no box. -/
def pureTys : List Nat := [2, 3, 5, 6, 12, 21, 64, 66, 126, 163, 164, 166, 167]
def inL : List Nat → Nat → Bool
  | [], _ => false
  | a :: r, t => Nat.beq t a || inL r t
def pureTy (t : Nat) : Bool := inL pureTys t
/-- The text that is made of a slice of bytes. -/
def textF (p : Bool) (du d : TD) : Option (Nat × List PC) → Option PC
  | some (_, cs) => if du.byt ∧ d.isStr ∧ p = false then match bytesC cs with
    | some l => some (.str ⟨l.toArray⟩)
    | none => none
    else none
  | none => none
/-- New cells behind a slice: its box is empty then, and a new one holds all. -/
def rowA : AV → Bool
  | .c (.row _ _ _ _) => true
  | _ => false
def appF (z : Nat) (h : Heap) (s : AV) (m : Nat) (new : List PC) : Option (SV × Heap) :=
  if new.length = m * z ∧ (0 < m ∨ rowA s = true) ∧ m ≤ 1048576 then match s with
  | .c (.row i 0 n z') => if z' = z ∧ 0 < n ∧ n ≤ 1048576 then match h[i]? with
      | some cs => if cs.length = n * z then some (.v (.c (.row h.length 0 (n + m) z)), h.set i [] ++ [cs ++ new]) else none
      | none => none
    else none
  | .c (.p (.sl none 0 0)) => some (.v (.c (.row h.length 0 m z)), h ++ [new])
  | .c (.emp _ _) => some (.v (.c (.row h.length 0 m z)), h ++ [new])
  | _ => none
  else none
/-- A part of a slice or a text. -/
def sliceF (d : TD) (hp : Heap) (x : AV) (l : Int) (hi : Option Int) (mx : Option Int) : Option AV :=
  match x with
  | .c (.row i o n z') => match hp[i]? with
    | some cs => if d.row ∧ z' = d.ez1.length ∧ 0 ≤ l ∧ o + n * d.ez1.length ≤ cs.length ∧ cs ≠ [] then (match hi, mx with
      | none, none => if l < n then some (.c (.row i (o + l.toNat * d.ez1.length) (n - l.toNat) d.ez1.length)) else none
      | some h, none => if l < h ∧ h ≤ n then some (.c (.row i (o + l.toNat * d.ez1.length) (h - l).toNat d.ez1.length)) else none
      | some h, some m => if l = 0 ∧ h = 0 ∧ m = 0 then some (.c (.emp i o)) else none
      | none, some _ => none)
    else none
    | none => none
  | .c (.p (.str s)) => match hi, mx with
    | none, none => if d.isStr ∧ 0 ≤ l ∧ l ≤ s.size then some (.c (.p (.str (s.extract l.toNat s.size)))) else none
    | some h, none => if d.isStr ∧ 0 ≤ l ∧ l ≤ h ∧ h ≤ s.size then some (.c (.p (.str (s.extract l.toNat h.toNat)))) else none
    | _, _ => none
  | _ => none

def intO : Option PC → Option Int
  | some (.int _ n) => some n
  | _ => none
/-- An operand that may lack: none: it lacks. -/
def optI (env : Env) : Option Operand → Option (Option Int)
  | none => some none
  | some x => match opdP env x with
    | some (.int _ n) => some (some n)
    | _ => none

/-- Parts of a row, as cells. -/
def partsA (env : Env) : List (Nat × Operand) → Option (List (Nat × List PC))
  | [] => some []
  | (i, x) :: r => match opdA env x, partsA env r with
    | some a, some l => match cellsOf a with
      | some c => some ((i, c) :: l)
      | none => none
    | _, _ => none
def fillR (z : Nat) (cells : List PC) : List (Nat × List PC) → Option (List PC)
  | [] => some cells
  | (i, x) :: r => if x.length = z ∧ i * z + z ≤ cells.length then fillR z (cells.take (i * z) ++ x ++ cells.drop (i * z + z)) r else none

def ptrsOf : List AV → Option (List Pt)
  | [] => some []
  | .c (.ptr q) :: r => match ptrsOf r with
    | some l => some (q :: l)
    | none => none
  | _ => none

/-- The cells of a text's bytes. -/
def bytesOf (s : ByteArray) : List PC := s.data.toList.map fun b => .int .u8 b.toNat
def okB (s : ByteArray) : Bool := decide (0 < s.size ∧ s.size ≤ 1048576)
/-- The slice of bytes that is made of a text. -/
def byteF (p : Bool) (du d : TD) (h : Heap) (s : ByteArray) : Option (SV × Heap) :=
  if du.isStr = true ∧ d.byt = true ∧ okB s = true ∧ p = false then some (.v (.c (.row h.length 0 s.size 1)), h ++ [bytesOf s]) else none

/-- One operation: what it puts into its slot (none: nothing that is told), and the boxes behind it. -/
noncomputable def doOp (T : Tab) (O : Orc) (g : Gv) (env : Env) (h : Heap) (op : Op) : Option (Option SV × Heap) :=
  match op with
  | .move x | .assign x => match opd env x with
    | some v => some (some v, h)
    | none => none
  | .pick c a b => match opdP env c with
    | some (.bool t) => match (if t then opd env a else opd env b) with
      | some v => some (some v, h)
      | none => none
    | _ => none
  | .alloc t => match T t with
    | some d => if d.zok then some (some (.v (.c (.ptr (.own h.length 0)))), h ++ [d.zero]) else none
    | none => none
  | .box _ x => match opdA env x with
    | some a => match cellsOf a with
      | some cs => some (some (.v (.c (.ptr (.own h.length 0)))), h ++ [cs])
      | none => none
    | none => none
  | .load t x => match opdA env x, T t with
    | some (.c (.ptr (.own i o))), some d => match h[i]? with
      | some cs => if d.agg then (if o + d.size ≤ cs.length ∧ cs ≠ [] then some (some (.v (.agg ((cs.drop o).take d.size))), h) else none)
        else match cs[o]? with
          | some c => some (some (sp c), h)
          | none => none
      | none => none
    | some (.c (.ptr (.giv j))), some d => if d.agg then none else match g.l[j]? with
      | some c => some (some (sp c), h)
      | none => none
    | some (.c (.ptr (.abs a))), some d => if d.agg then (match cellsAt g.m a 0 d.size with
        | some cs => some (some (.v (.agg cs)), h)
        | none => none)
      else match g.m a with
        | some c => some (some (sp c), h)
        | none => none
    | _, _ => none
  | .store t a x => match opdA env a, opdA env x, T t with
    | some (.c (.ptr (.own i o))), some v, some d => match h[i]?, cellsOf v with
      | some cs, some new => if new.length = d.size ∧ o + new.length ≤ cs.length ∧ cs ≠ [] then some (none, h.set i (splice cs o new)) else none
      | _, _ => none
    | _, _, _ => none
  | .binOp op t x y _ => match opdA env x, opdA env y with
    | some a, some b => match bin T op t a b with
      | some r => some (some (sp r), h)
      | none => none
    | _, _ => none
  | .unOp op _ x => match opdP env x with
    | some a => match un op a with
      | some r => some (some (sp r), h)
      | none => none
    | none => none
  | .convert u t x => match opdA env x, T u, T t with
    | some (.c (.p (.int _ n))), some _, some d => match d.ik with
      | some k => some (some (sp (.int k (k.wrap n))), h)
      | none => none
    | some (.c (.p (.str s))), some du, some d => match byteF (pureTy t) du d h s with
      | some (r, h') => some (some r, h')
      | none => none
    | some a, some du, some d => match textF (pureTy t) du d (rowCells 1 h g.m a) with
      | some r => some (some (sp r), h)
      | none => none
    | _, _, _ => none
  | .makeFunc fn first caps => match fn with
    | .func f => if first.size = 0 then match argsA env caps.toList with
      | some l => match ptrsOf l with
        | some [] => some (some (sp (.fn f)), h)
        | some qs => some (some (.v (.c (.clo f qs))), h)
        | none => none
      | none => none
      else none
    | _ => none
  | .nilCheck x => match opdA env x with
    | some (.c (.ptr q)) => some (some (.v (.c (.ptr q))), h)
    | _ => none
  | .fieldAddr t x f => match opdA env x, T t with
    | some (.c (.ptr (.own i o))), some d => match d.fields[f]? with
      | some q => some (some (.v (.c (.ptr (.own i (o + q))))), h)
      | none => none
    | _, _ => none
  | .field t x f => match opdA env x, T t with
    | some (.agg xs), some d => match (d.fields[f]?).bind (xs[·]?) with
      | some c => some (some (sp c), h)
      | none => none
    | _, _ => none
  | .indexAddr t x ix => match opdA env x, opdP env ix, T t with
    | some (.c (.row i o n z)), some (.int _ j), some d => if d.row ∧ z = d.ez1.length ∧ 0 ≤ j ∧ j < n then some (some (.v (.c (.ptr (.own i (o + j.toNat * z))))), h) else none
    | some (.c (.p (.sl (some a) n _))), some (.int _ j), some d => if d.row ∧ 0 ≤ j ∧ j < n then some (some (.v (.c (.ptr (.abs (a.add (j.toNat * d.ez1.length)))))), h) else none
    | _, _, _ => none
  | .index t x ix => match opdA env x, opdP env ix, T t with
    | some (.agg xs), some (.int _ j), some d => if d.cells ∧ d.agg ∧ 0 ≤ j ∧ j < d.len then (match xs[j.toNat]? with
        | some c => some (some (sp c), h)
        | none => none) else none
    | some (.c (.p (.str s))), some (.int _ j), some d => if d.isStr ∧ 0 ≤ j then (match s[j.toNat]? with
        | some b => some (some (sp (.int .u8 b.toNat)), h)
        | none => none) else none
    | _, _, _ => none
  | .build t parts => match T t, partsP env parts.toList with
    | some d, some ps => if d.agg ∧ d.zok then (match fillP (fun i => if d.cells then some i else d.fields[i]?) d.zero ps with
        | some cs => some (some (.v (.agg cs)), h)
        | none => none) else none
    | _, _ => none
  | .buildSlice t n parts => match T t, partsA env parts.toList with
    | some d, some ps => if d.row ∧ n ≤ 1000 then (match fillR d.ez1.length ((List.replicate n d.ez1).flatten) ps with
        | some cs => some (some (.v (.c (if n = 0 then .emp h.length 0 else .row h.length 0 n d.ez1.length))), h ++ [cs])
        | none => none) else none
    | _, _ => none
  | .makeSlice t ln cp => match T t, intO (opdP env ln), intO (opdP env cp) with
    | some d, some l, some c => if d.row ∧ l = c ∧ 0 ≤ l ∧ l ≤ 1048576 then some (some (.v (.c (if l = 0 then .emp h.length 0 else .row h.length 0 l.toNat d.ez1.length))), h ++ [(List.replicate l.toNat d.ez1).flatten]) else none
    | _, _, _ => none
  | .slice t x lo hi mx => match T t, opdA env x, optI env lo, optI env hi, optI env mx with
    | some d, some a, some l, some hh, some m => match sliceF d h a (l.getD 0) hh m with
        | some r => some (some (.v r), h)
        | none => none
    | _, _, _, _, _ => none
  | .extract x j => match opd env x with
    | some (.tup xs) => match xs[j]? with
      | some a => some (some (.v a), h)
      | none => none
    | _ => none
  | .call c => match c.callee with
    | .value f => match opdA env f with
      | some fa => match callee fa, argsA env c.args.toList with
        | some (k, caps), some args => match callF O h g k (args ++ caps.map fun q => .c (.ptr q)) with
          | some (r, h') => some (some r, h')
          | none => none
        | _, _ => none
      | none => none
    | .builtin .len => match argsA env c.args.toList, (c.argTypes[0]?).bind T with
      | some [a], some d => match lenF d a with
          | some n => some (some (sp (.int .i64 n)), h)
          | none => none
      | _, _ => none
    | .builtin .append => match argsA env c.args.toList, c.argTypes.toList with
      | some [a, x], [t, t'] => match T t with
        | some d => if d.row ∧ t' = t then (match rowCells d.ez1.length h g.m x with
            | some (m, new) => match appF d.ez1.length h a m new with
              | some (r, h') => some (some r, h')
              | none => none
            | none => none) else none
        | none => none
      | _, _ => none
    | .builtin b => match argsA env c.args.toList with
      | some args => match builtinF b args with
        | some r => some (some (sp r), h)
        | none => none
      | none => none
    | _ => none
  | _ => none

/-- Is the operation carried out? -/
def goes (env : Env) (ops : Array Oper) (o : Oper) : Option Bool :=
  match o.guard with
  | none => some true
  | some (j, want) => match (ops[j]?).bind (·.dst) with
    | some d => match look env d with
      | some (.v (.c (.p (.bool b)))) => some (b == want)
      | some (.tup []) => some false
      | _ => none
    | none => none

def putE (env : Env) (d : Option Tmp) (v : Option SV) : Env :=
  match d with
  | some d => (d, v) :: env
  | none => env

noncomputable def doOps (T : Tab) (O : Orc) (g : Gv) (all : Array Oper) : List Oper → St → Option St
  | [], s => some s
  | o :: r, s => match goes s.env all o with
    | some true => match doOp T O g s.env s.heap o.op with
      | some (v, h) => doOps T O g all r ⟨putE s.env o.dst v, h⟩
      | none => none
    | some false => doOps T O g all r ⟨putE s.env o.dst (some (.tup [])), s.heap⟩
    | none => none

/-! ### A region that draws its order -/

def isStore : Op → Bool
  | .store .. => true
  | _ => false

abbrev Vals := List (Option (Nat × Option SV))

/-- What stands in the slots that an operation waits for. -/
def entries (vals : Vals) : List Edge → Env
  | [] => []
  | e :: r => if Region.binds .any e then (match vals[e.on]? with
      | some (some x) => x :: entries vals r
      | _ => entries vals r) else entries vals r

def dstsOf : List Oper → Env
  | [] => []
  | o :: r => match o.dst with
    | some d => (d, none) :: dstsOf r
    | none => dstsOf r

def waitsFor (o : Oper) (k : Nat) : Bool := o.after.toList.any fun e => Region.binds .any e && e.on == k
def isAsg : Op → Bool
  | .assign _ => true
  | _ => false
/-- How many of the first k operations it waits for. -/
def cntW (o : Oper) : Nat → Nat
  | 0 => 0
  | k + 1 => bif waitsFor o k then cntW o k + 1 else cntW o k
/-- An assignment that waits for all other operations (n is their number): ahead of it its slot holds what it held. -/
def lastOf (n : Nat) (o : Oper) : Bool := isAsg o.op && Nat.ble n (o.after.toList.length + 1) && Nat.ble n (cntW o n + 1)
/-- Slots that may be written while others read. -/
def dstsW (n : Nat) : List Oper → Env
  | [] => []
  | o :: r => match o.dst with
    | some d => bif lastOf n o then dstsW n r else (d, none) :: dstsW n r
    | none => dstsW n r
def envD (ops : List Oper) (env : Env) (vals : Vals) (o : Oper) : Env := entries vals o.after.toList ++ (dstsW ops.length ops ++ env)

/-- What has turned the boxes so far, the last first: its place, what it turns (none: it adds boxes; some (some b): box b; some none: any), the boxes behind it. -/
abbrev WS := List (Nat × Option (Option Nat) × Heap)
/-- Boxes that are made in any order: the operation's place, the box, its cells. -/
abbrev FL := List (Nat × Nat × List PC)
def headH (h : Heap) : WS → Heap
  | [] => h
  | (_, _, h1) :: _ => h1
/-- The boxes, with those filled for which p holds. -/
def fillH (p : Nat → Bool) (h : Heap) : FL → Heap
  | [] => h
  | (j, i, cs) :: r => if p j then (fillH p h r).set i cs else fillH p h r
/-- The boxes behind the last of these that an operation waits for. -/
def heapN (h : Heap) (o : Oper) : WS → Heap
  | [] => h
  | (k, _, h1) :: r => if waitsFor o k then h1 else heapN h o r
/-- Operations that neither read nor change boxes. -/
def isPure : Op → Bool
  | .move _ | .assign _ | .binOp .. | .unOp .. | .extract .. | .fieldAddr .. | .field .. | .indexAddr .. | .index .. | .nilCheck _ => true
  | .convert _ t _ => pureTy t
  | _ => false
def pureAt : List Oper → Nat → Bool
  | [], _ => false
  | o :: _, 0 => isPure o.op
  | _ :: r, n + 1 => pureAt r n

/-- The box that an operation reads, where it is a load. -/
def boxOf : Option AV → Option Nat
  | some (.c (.ptr (.own i _))) => some i
  | _ => none
def ldOf (env : Env) : Op → Option Nat
  | .load _ x => boxOf (opdA env x)
  | _ => none
def otherB (b : Nat) : Option Nat → Bool
  | some c => !Nat.beq c b
  | none => false
def otherT (t : Option Nat) (l : Option Nat) : Bool := match t with
  | some b => otherB b l
  | none => false
/-- What turns boxes does not matter to what reads none of them. -/
def spares (p : Bool) (l : Option Nat) : Option (Option Nat) → Bool
  | some (some b) => p || otherB b l
  | some none => p
  | none => true
/-- Those that it does not wait for do not matter to it. -/
def okN (o : Oper) (l : Option Nat) : WS → Bool
  | [] => true
  | (k, st, _) :: r => waitsFor o k || (spares (isPure o.op) l st && okN o l r)
def waitsHead (o : Oper) : WS → Bool
  | [] => true
  | (k, _, _) :: _ => waitsFor o k
def isW (i : Nat) : WS → Bool
  | [] => false
  | (k, _, _) :: r => Nat.beq k i || isW i r
abbrev Lds := List (Option Nat)
def ldAt (l : Lds) (i : Nat) : Option Nat := (l[i]?).getD none
/-- What turns boxes waits for all that stands ahead of it and to which it matters. -/
def waitsAt : List Oper → Nat → Nat → Bool
  | [], _, _ => false
  | o :: _, 0, i => waitsFor o i
  | _ :: r, k + 1, i => waitsAt r k i
/-- It waits for one that waits for i. -/
def byWay (all : List Oper) (o : Oper) (i : Nat) : Nat → Bool
  | 0 => false
  | k + 1 => (waitsFor o k && waitsAt all k i) || byWay all o i k
def storeOk (all : List Oper) (o : Oper) (ws : WS) (ls : Lds) (b : Option Nat) (n : Nat) : Bool := (List.range n).all fun i => waitsFor o i || pureAt all i || isW i ws || otherT b (ldAt ls i) || byWay all o i all.length
def oneB : Bool → List Pt → Option (List AV) → Option Nat
  | true, [], some l => headBox l
  | _, _, _ => none
/-- What a call turns. -/
def touchC (O : Orc) : Option AV → Option (List AV) → Option (Option Nat)
  | some fa, args => match callee fa with
    | some (k, caps) => bif (O.m k).isSome then some (oneB (O.one k) caps args) else none
    | none => none
  | none, _ => none
/-- What an operation turns (none: it adds boxes at most). -/
def touch (O : Orc) (env : Env) : Op → Option (Option Nat)
  | .store _ a _ => some (boxOf (opdA env a))
  | .call ⟨.builtin .append, _, _⟩ => some none
  | .call ⟨.value f, l, _⟩ => touchC O (opdA env f) (argsA env l.toList)
  | _ => none
/-- An operation that makes a box out of values alone, and waits for nothing. -/
def isNew : Op → Bool
  | .alloc _ | .box .. | .buildSlice .. => true
  | _ => false
def isFree (o : Oper) : Bool := isNew o.op && o.after.toList.all (fun e => !Region.binds .any e)
def frees : List Oper → Nat
  | [] => 0
  | o :: r => bif isFree o then frees r + 1 else frees r
def waitsFl (o : Oper) : FL → Bool
  | [] => true
  | (j, _, _) :: r => waitsFor o j && waitsFl o r

/-- 'h' are the boxes ahead of the region, 'A' the number of those that are made in any order: they have the first new places. -/
noncomputable def doOpsD (T : Tab) (O : Orc) (g : Gv) (all : Array Oper) (env : Env) (h : Heap) (A : Nat) : List Oper → Vals → FL → WS → Lds → Option (Vals × FL × WS)
  | [], vals, fl, ws, _ => if fl.length = A then some (vals, fl, ws) else none
  | o :: r, vals, fl, ws, ls =>
    if (o.after.toList.all (fun e => !Region.binds .any e || decide (e.on < vals.length))) = true then
     match goes (envD all.toList env vals o) all o with
     | some true =>
      if isFree o = true then
        if ws = [] ∧ fl.length < A then match doOp T O g (envD all.toList env vals o) (h ++ List.replicate fl.length []) o.op with
          | some (v, h') => match h'[h.length + fl.length]? with
            | some cs => doOpsD T O g all env h A r (vals ++ [o.dst.map (·, v)]) ((vals.length, h.length + fl.length, cs) :: fl) ws (ls ++ [none])
            | none => none
          | none => none
        else none
      else if okN o (ldOf (envD all.toList env vals o) o.op) ws = true then
        match doOp T O g (envD all.toList env vals o) (heapN (fillH (waitsFor o) (h ++ List.replicate A []) fl) o ws) o.op with
        | some (v, h') =>
          match touch O (envD all.toList env vals o) o.op with
          | some b => if waitsHead o ws = true ∧ waitsFl o fl = true ∧ fl.length = A ∧ storeOk all.toList o ws ls b vals.length = true then doOpsD T O g all env h A r (vals ++ [o.dst.map (·, v)]) fl ((vals.length, some b, h') :: ws) (ls ++ [none]) else none
          | none =>
            if h'.length = (heapN (fillH (waitsFor o) (h ++ List.replicate A []) fl) o ws).length then doOpsD T O g all env h A r (vals ++ [o.dst.map (·, v)]) fl ws (ls ++ [ldOf (envD all.toList env vals o) o.op])
            else if waitsHead o ws = true ∧ waitsFl o fl = true ∧ fl.length = A then doOpsD T O g all env h A r (vals ++ [o.dst.map (·, v)]) fl ((vals.length, none, h') :: ws) (ls ++ [none]) else none
        | none => none
      else none
     | some false => if isFree o = true then none else doOpsD T O g all env h A r (vals ++ [o.dst.map (·, some (.tup []))]) fl ws (ls ++ [none])
     | none => none
    else none

def valsEnv : Vals → Env
  | [] => []
  | some x :: r => x :: valsEnv r
  | none :: r => valsEnv r

noncomputable def doDraw (T : Tab) (O : Orc) (g : Gv) (all : Array Oper) (s : St) : Option St :=
  match doOpsD T O g all s.env s.heap (frees all.toList) all.toList [] [] [] [] with
  | some (vals, fl, ws) => some ⟨valsEnv vals ++ s.env, headH (fillH (fun _ => true) (s.heap ++ List.replicate (frees all.toList) []) fl) ws⟩
  | none => none

/-- No two operations put into one slot. -/
def apartD (all : List Oper) : Bool := match all with
  | [] => true
  | o :: r => (match o.dst with
    | some d => r.all (fun o' => o'.dst != some d)
    | none => true) && apartD r

end Go.Proofs.YtcnapkdccjibpaaGreatDoor.Eng
