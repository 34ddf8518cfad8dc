/- An evaluator for value-only Go code: what it computes with. It says nothing by itself of a run; the text behind it does. -/
import Derived.Below
import Derived.Orders
import Derived.RowKit3
import Derived.ProofKit
namespace Go.Proofs.YtnkdmdjnnbkfgaaGreat.Eng
open Go Go.RowKit
set_option linter.unusedVariables false

/-- A plain cell: it leads to no memory. -/
inductive PC where
  | int (k : IntKind) (n : Int)
  | bool (b : Bool)
  | str (s : ByteArray)
  | fn (f : Nat)

/-- A pointer: into an own box, or to a given cell. -/
inductive Pt where
  | own (i o : Nat)
  | giv (j : Nat)

inductive Cl where
  | p (x : PC)
  | ptr (q : Pt)
  | clo (f : Nat) (caps : List Pt)
  | row (i n : Nat)

inductive AV where
  | c (x : Cl)
  | agg (xs : List PC)

inductive SV where
  | v (x : AV)
  | tup (xs : List AV)

def PC.conc : PC → Value
  | .int k n => .int k n
  | .bool b => .bool b
  | .str s => .string s
  | .fn f => .func (.func f) #[] #[]

def Pt.addr (ρ : List Nat) (G : List Addr) : Pt → Addr
  | .own i o => ⟨ρ.getD i 0, o, none⟩
  | .giv j => G.getD j default

def Pt.conc (ρ : List Nat) (G : List Addr) (q : Pt) : Value := .pointer (some (q.addr ρ G))

def Cl.conc (ρ : List Nat) (G : List Addr) : Cl → Value
  | .p x => x.conc
  | .ptr q => q.conc ρ G
  | .clo f caps => .func (.func f) #[] (caps.map (Pt.conc ρ G)).toArray
  | .row i n => .slice (some ⟨ρ.getD i 0, 0, none⟩) n n

def aggOf (xs : List PC) : Value := .agg (xs.map PC.conc).toArray

def AV.conc (ρ : List Nat) (G : List Addr) : AV → Value
  | .c x => x.conc ρ G
  | .agg xs => aggOf xs

def SV.conc (ρ : List Nat) (G : List Addr) : SV → Value
  | .v x => x.conc ρ G
  | .tup xs => .tuple (xs.map (AV.conc ρ G)).toArray

def Pt.wf (n : Nat) : Pt → Prop
  | .own i _ => i < n
  | .giv _ => True
def Cl.wf (n : Nat) : Cl → Prop
  | .p _ => True
  | .ptr q => q.wf n
  | .clo _ caps => ∀ q ∈ caps, q.wf n
  | .row i _ => i < n
def AV.wf (n : Nat) : AV → Prop
  | .c x => x.wf n
  | .agg _ => True
def SV.wf (n : Nat) : SV → Prop
  | .v x => x.wf n
  | .tup xs => ∀ x ∈ xs, x.wf n

/-- What is known of a type. -/
structure TD where
  agg : Bool
  size : Nat
  /-- the zero value's cells, if it is told (an array's or a slice's element's, where 'cells' holds and it is no array) -/
  zero : List PC := []
  zok : Bool := false
  ik : Option IntKind := none
  ez : PC := .bool false
  /-- of a struct: where its fields begin (all of them are plain cells) -/
  fields : List Nat := []
  /-- of an array or a slice of plain cells: true -/
  cells : Bool := false
  len : Nat := 0
  /-- of a struct of integers that are compared: their kinds -/
  eqk : List IntKind := []
  isBool : Bool := false
  isStr : Bool := false

abbrev Tab := Nat → Option TD
/-- What is told of calls: what must hold of the arguments, the result, new boxes behind it. -/
abbrev Orc := Nat → List AV → List PC → Option (Prop × SV × List (List PC))
abbrev Env := List (Nat × Option SV)
abbrev Heap := List (List PC)

structure St where
  env : Env
  heap : Heap

def look : Env → Nat → Option SV
  | [], _ => none
  | (t', v) :: r, t => if t = t' then v else look r t

def ofValue : Value → Option SV
  | .int k n => some (.v (.c (.p (.int k n))))
  | .bool b => some (.v (.c (.p (.bool b))))
  | .string s => some (.v (.c (.p (.str s))))
  | _ => none

def opd (env : Env) : Operand → Option SV
  | .tmp t => look env t
  | .const v => ofValue v
  | .func f => some (.v (.c (.p (.fn f))))
  | .global _ => none

def opdA (env : Env) (x : Operand) : Option AV :=
  match opd env x with
  | some (.v a) => some a
  | _ => none

def opdP (env : Env) (x : Operand) : Option PC :=
  match opd env x with
  | some (.v (.c (.p a))) => some a
  | _ => none

def sp (x : PC) : SV := .v (.c (.p x))

/-- An operator on two integers of one kind. -/
def intBin (op : BinOp) (k : IntKind) (a b : Int) : Option PC :=
  match op with
  | .add => some (.int k (k.wrap (a + b)))
  | .sub => some (.int k (k.wrap (a - b)))
  | .mul => some (.int k (k.wrap (a * b)))
  | .quo => if b = 0 then none else some (.int k (k.wrap (a.tdiv b)))
  | .rem => if b = 0 then none else some (.int k (a.tmod b))
  | .and => some (.int k (k.wrap (BitVec.ofInt k.bits a &&& BitVec.ofInt k.bits b).toNat))
  | .or => some (.int k (k.wrap (BitVec.ofInt k.bits a ||| BitVec.ofInt k.bits b).toNat))
  | .xor => some (.int k (k.wrap (BitVec.ofInt k.bits a ^^^ BitVec.ofInt k.bits b).toNat))
  | .eql => some (.bool (a == b))
  | .neq => some (.bool (a != b))
  | .lss => some (.bool (decide (a < b)))
  | .leq => some (.bool (decide (a ≤ b)))
  | .gtr => some (.bool (decide (a > b)))
  | .geq => some (.bool (decide (a ≥ b)))
  | _ => none

def shBin (op : BinOp) (k : IntKind) (a b : Int) : Option PC :=
  match op with
  | .shl => if b < 0 then none else some (.int k (k.wrap (a * 2 ^ (min b.toNat k.bits))))
  | .shr => if b < 0 then none else some (.int k (a.fdiv (2 ^ (min b.toNat k.bits))))
  | _ => none

def isSh : BinOp → Bool
  | .shl | .shr => true
  | _ => false

def ints : List IntKind → List PC → Option (List Int)
  | [], [] => some []
  | k :: ks, .int k' n :: r => if k = k' then (match ints ks r with
    | some l => some (n :: l)
    | none => none) else none
  | _, _ => none

def bin (T : Tab) (op : BinOp) (t : Nat) (x y : AV) : Option PC :=
  match x, y with
  | .c (.p (.int k a)), .c (.p (.int k' b)) => if isSh op then shBin op k a b else if k = k' then intBin op k a b else none
  | .c (.p (.bool a)), .c (.p (.bool b)) =>
    match T t with
    | some d => if d.isBool then (match op with | .eql => some (.bool (a == b)) | .neq => some (.bool (a != b)) | _ => none) else none
    | none => none
  | .agg xs, .agg ys =>
    match T t with
    | some d => if d.eqk = [] then none else match ints d.eqk xs, ints d.eqk ys with
      | some l, some m => (match op with | .eql => some (.bool (l == m)) | .neq => some (.bool (l != m)) | _ => none)
      | _, _ => none
    | none => none
  | _, _ => none

def un (op : UnOp) (x : PC) : Option PC :=
  match op, x with
  | .neg, .int k n => some (.int k (k.wrap (0 - n)))
  | .xor, .int k n => some (.int k (k.wrap (BitVec.ofInt k.bits (if k.signed then -1 else k.max) ^^^ BitVec.ofInt k.bits n).toNat))
  | .not, .bool b => some (.bool !b)
  | _, _ => none

/-- The content of a value's cells. -/
def cellsOf : AV → Option (List PC)
  | .c (.p x) => some [x]
  | .agg xs => some xs
  | _ => none

def splice (cs : List PC) (o : Nat) (new : List PC) : List PC := cs.take o ++ new ++ cs.drop (o + new.length)

/-- Cells of a literal: 'parts' are put at their places. -/
def fillP (place : Nat → Option Nat) (cells : List PC) : List (Nat × PC) → Option (List PC)
  | [] => some cells
  | (i, x) :: r => match place i with
    | some o => if o < cells.length then fillP place (cells.set o x) r else none
    | none => none

def partsP (env : Env) : List (Nat × Operand) → Option (List (Nat × PC))
  | [] => some []
  | (i, x) :: r => match opdP env x, partsP env r with
    | some c, some l => some ((i, c) :: l)
    | _, _ => none

def loadCell (h : Heap) (g : List PC) : Pt → Option PC
  | .own i o => (h[i]?).bind (·[o]?)
  | .giv j => g[j]?

def trPts (h : Heap) (g : List PC) (acc : List PC) : List Pt → Option (List Pt × List PC)
  | [] => some ([], acc)
  | q :: r => match loadCell h g q with
    | some c => match trPts h g (acc ++ [c]) r with
      | some (qs, acc') => some (.giv acc.length :: qs, acc')
      | none => none
    | none => none

/-- Arguments as the callee sees them: own boxes become given cells. -/
def trArgs (h : Heap) (g : List PC) (acc : List PC) : List AV → Option (List AV × List PC)
  | [] => some ([], acc)
  | .agg xs :: r => match trArgs h g acc r with
    | some (l, a) => some (.agg xs :: l, a)
    | none => none
  | .c (.p x) :: r => match trArgs h g acc r with
    | some (l, a) => some (.c (.p x) :: l, a)
    | none => none
  | .c (.clo f caps) :: r => match trPts h g acc caps with
    | some (qs, acc') => match trArgs h g acc' r with
      | some (l, a) => some (.c (.clo f qs) :: l, a)
      | none => none
    | none => none
  | .c (.ptr q) :: r => match trPts h g acc [q] with
    | some (qs, acc') => match trArgs h g acc' r with
      | some (l, a) => some (qs.map (fun q => .c (.ptr q)) ++ l, a)
      | none => none
    | none => none
  | _ => none

def Pt.up (n : Nat) : Pt → Pt
  | .own i o => .own (n + i) o
  | .giv j => .giv j
def Cl.up (n : Nat) : Cl → Cl
  | .p x => .p x
  | .ptr q => .ptr (q.up n)
  | .clo f caps => .clo f (caps.map (Pt.up n))
  | .row i k => .row (n + i) k
def AV.up (n : Nat) : AV → AV
  | .c x => .c (x.up n)
  | .agg xs => .agg xs
def SV.up (n : Nat) : SV → SV
  | .v x => .v (x.up n)
  | .tup xs => .tup (xs.map (AV.up n))

def argsA (env : Env) : List Operand → Option (List AV)
  | [] => some []
  | x :: r => match opdA env x, argsA env r with
    | some a, some l => some (a :: l)
    | _, _ => none

/-- A call: the function's number and what it captured. -/
def callee : AV → Option (Nat × List Pt)
  | .c (.p (.fn f)) => some (f, [])
  | .c (.clo f caps) => some (f, caps)
  | _ => none

def grow (h : Heap) (r : SV) : List (List PC) → SV × Heap
  | [] => (r, h)
  | b :: bs => (r.up h.length, h ++ (b :: bs))

open Classical in
noncomputable def callF (O : Orc) (h : Heap) (g : List PC) (f : Nat) (args : List AV) : Option (SV × Heap) :=
  match trArgs h g [] args with
  | some (l, g') => match O f l g' with
    | some (pre, r, new) => if pre then some (grow h r new) else none
    | none => none
  | none => none

def foldPC (f : PC → PC → Option PC) : PC → List PC → Option PC
  | x, [] => some x
  | x, y :: r => match f x y with
    | some z => foldPC f z r
    | none => none

def max2 : PC → PC → Option PC
  | .int k x, .int _ y => some (.int k (if y > x then y else x))
  | _, _ => none
def min2 : PC → PC → Option PC
  | .int k x, .int _ y => some (.int k (if y < x then y else x))
  | _, _ => none

def allP : List AV → Option (List PC)
  | [] => some []
  | .c (.p x) :: r => (allP r).map (x :: ·)
  | _ => none

def builtinF (b : Builtin) (args : List AV) : Option PC :=
  match b, allP args with
  | .max, some (x :: r) => foldPC max2 x r
  | .min, some (x :: r) => foldPC min2 x r
  | _, _ => none

def ptrsOf : List AV → Option (List Pt)
  | [] => some []
  | .c (.ptr q) :: r => match ptrsOf r with
    | some l => some (q :: l)
    | none => none
  | _ => none

/-- One operation: what it puts into its slot (none: nothing that is told), and the boxes behind it. -/
noncomputable def doOp (T : Tab) (O : Orc) (g : List PC) (env : Env) (h : Heap) (op : Op) : Option (Option SV × Heap) :=
  match op with
  | .move x | .assign x => match opd env x with
    | some v => some (some v, h)
    | none => none
  | .pick c a b => match opdP env c with
    | some (.bool t) => match (if t then opd env a else opd env b) with
      | some v => some (some v, h)
      | none => none
    | _ => none
  | .alloc t => match T t with
    | some d => if d.zok then some (some (.v (.c (.ptr (.own h.length 0)))), h ++ [d.zero]) else none
    | none => none
  | .box _ x => match opdA env x with
    | some a => match cellsOf a with
      | some cs => some (some (.v (.c (.ptr (.own h.length 0)))), h ++ [cs])
      | none => none
    | none => none
  | .load t x => match opdA env x, T t with
    | some (.c (.ptr (.own i o))), some d => match h[i]? with
      | some cs => if d.agg then (if o + d.size ≤ cs.length then some (some (.v (.agg ((cs.drop o).take d.size))), h) else none)
        else match cs[o]? with
          | some c => some (some (sp c), h)
          | none => none
      | none => none
    | some (.c (.ptr (.giv j))), some d => if d.agg then none else match g[j]? with
      | some c => some (some (sp c), h)
      | none => none
    | _, _ => none
  | .store t a x => match opdA env a, opdA env x, T t with
    | some (.c (.ptr (.own i o))), some v, some d => match h[i]?, cellsOf v with
      | some cs, some new => if new.length = d.size ∧ o + new.length ≤ cs.length then some (none, h.set i (splice cs o new)) else none
      | _, _ => none
    | _, _, _ => none
  | .binOp op t x y _ => match opdA env x, opdA env y with
    | some a, some b => match bin T op t a b with
      | some r => some (some (sp r), h)
      | none => none
    | _, _ => none
  | .unOp op _ x => match opdP env x with
    | some a => match un op a with
      | some r => some (some (sp r), h)
      | none => none
    | none => none
  | .convert u t x => match opdP env x, T u, T t with
    | some (.int _ n), some _, some d => match d.ik with
      | some k => some (some (sp (.int k (k.wrap n))), h)
      | none => none
    | _, _, _ => none
  | .makeFunc fn first caps => match fn with
    | .func f => if first.size = 0 then match argsA env caps.toList with
      | some l => match ptrsOf l with
        | some [] => some (some (sp (.fn f)), h)
        | some qs => some (some (.v (.c (.clo f qs))), h)
        | none => none
      | none => none
      else none
    | _ => none
  | .fieldAddr t x f => match opdA env x, T t with
    | some (.c (.ptr (.own i o))), some d => match d.fields[f]? with
      | some q => some (some (.v (.c (.ptr (.own i (o + q))))), h)
      | none => none
    | _, _ => none
  | .field t x f => match opdA env x, T t with
    | some (.agg xs), some d => match (d.fields[f]?).bind (xs[·]?) with
      | some c => some (some (sp c), h)
      | none => none
    | _, _ => none
  | .indexAddr t x ix => match opdA env x, opdP env ix, T t with
    | some (.c (.row i n)), some (.int _ j), some d => if d.cells ∧ ¬ d.agg ∧ 0 ≤ j ∧ j < n then some (some (.v (.c (.ptr (.own i j.toNat)))), h) else none
    | _, _, _ => none
  | .index t x ix => match opdA env x, opdP env ix, T t with
    | some (.agg xs), some (.int _ j), some d => if d.cells ∧ d.agg ∧ 0 ≤ j ∧ j < d.len then (match xs[j.toNat]? with
        | some c => some (some (sp c), h)
        | none => none) else none
    | some (.c (.p (.str s))), some (.int _ j), some d => if d.isStr ∧ 0 ≤ j then (match s[j.toNat]? with
        | some b => some (some (sp (.int .u8 b.toNat)), h)
        | none => none) else none
    | _, _, _ => none
  | .build t parts => match T t, partsP env parts.toList with
    | some d, some ps => if d.agg ∧ d.zok then (match fillP (fun i => if d.cells then some i else d.fields[i]?) d.zero ps with
        | some cs => some (some (.v (.agg cs)), h)
        | none => none) else none
    | _, _ => none
  | .buildSlice t n parts => match T t, partsP env parts.toList with
    | some d, some ps => if d.cells ∧ ¬ d.agg ∧ 0 < n ∧ n ≤ 1000 then (match fillP some (List.replicate n d.ez) ps with
        | some cs => some (some (.v (.c (.row h.length n))), h ++ [cs])
        | none => none) else none
    | _, _ => none
  | .extract x j => match opd env x with
    | some (.tup xs) => match xs[j]? with
      | some a => some (some (.v a), h)
      | none => none
    | _ => none
  | .call c => match c.callee with
    | .value f => match opdA env f with
      | some fa => match callee fa, argsA env c.args.toList with
        | some (k, caps), some args => match callF O h g k (args ++ caps.map fun q => .c (.ptr q)) with
          | some (r, h') => some (some r, h')
          | none => none
        | _, _ => none
      | none => none
    | .builtin b => match argsA env c.args.toList with
      | some args => match builtinF b args with
        | some r => some (some (sp r), h)
        | none => none
      | none => none
    | _ => none
  | _ => none

/-- Is the operation carried out? -/
def goes (env : Env) (ops : Array Oper) (o : Oper) : Option Bool :=
  match o.guard with
  | none => some true
  | some (j, want) => match (ops[j]?).bind (·.dst) with
    | some d => match look env d with
      | some (.v (.c (.p (.bool b)))) => some (b == want)
      | some (.tup []) => some false
      | _ => none
    | none => none

def putE (env : Env) (d : Option Tmp) (v : Option SV) : Env :=
  match d with
  | some d => (d, v) :: env
  | none => env

noncomputable def doOps (T : Tab) (O : Orc) (g : List PC) (all : Array Oper) : List Oper → St → Option St
  | [], s => some s
  | o :: r, s => match goes s.env all o with
    | some true => match doOp T O g s.env s.heap o.op with
      | some (v, h) => doOps T O g all r ⟨putE s.env o.dst v, h⟩
      | none => none
    | some false => doOps T O g all r ⟨putE s.env o.dst (some (.tup [])), s.heap⟩
    | none => none

/-! ### A region that draws its order -/

def isStore : Op → Bool
  | .store .. => true
  | _ => false

abbrev Vals := List (Option (Nat × Option SV))

/-- What stands in the slots that an operation waits for. -/
def entries (vals : Vals) : List Edge → Env
  | [] => []
  | e :: r => if Region.binds .any e then (match vals[e.on]? with
      | some (some x) => x :: entries vals r
      | _ => entries vals r) else entries vals r

def dstsOf : List Oper → Env
  | [] => []
  | o :: r => match o.dst with
    | some d => (d, none) :: dstsOf r
    | none => dstsOf r

def envD (ops : List Oper) (env : Env) (vals : Vals) (o : Oper) : Env := entries vals o.after.toList ++ (dstsOf ops ++ env)

def waitsFor (o : Oper) (k : Nat) : Bool := o.after.toList.any fun e => Region.binds .any e && e.on == k

/-- What has turned the boxes so far, the last first: its place, the box that it stores into (none: it adds boxes), the boxes behind it. -/
abbrev WS := List (Nat × Option Nat × Heap)
def headH (h : Heap) : WS → Heap
  | [] => h
  | (_, _, h1) :: _ => h1
/-- The boxes behind the last of these that an operation waits for. -/
def heapN (h : Heap) (o : Oper) : WS → Heap
  | [] => h
  | (k, _, h1) :: r => if waitsFor o k then h1 else heapN h o r
/-- Operations that neither read nor change boxes. -/
def isPure : Op → Bool
  | .move _ | .assign _ | .binOp .. | .unOp .. | .convert .. | .extract .. | .fieldAddr .. | .field .. | .indexAddr .. | .index .. => true
  | _ => false
def pureAt : List Oper → Nat → Bool
  | [], _ => false
  | o :: _, 0 => isPure o.op
  | _ :: r, n + 1 => pureAt r n

/-- The box that an operation reads, where it is a load. -/
def boxOf : Option AV → Option Nat
  | some (.c (.ptr (.own i _))) => some i
  | _ => none
def ldOf (env : Env) : Op → Option Nat
  | .load _ x => boxOf (opdA env x)
  | _ => none
def otherB (b : Nat) : Option Nat → Bool
  | some c => !Nat.beq c b
  | none => false
/-- A store does not matter to what reads no box, or another one. -/
def spares (p : Bool) (l : Option Nat) : Option Nat → Bool
  | some b => p || otherB b l
  | none => true
/-- Those that it does not wait for do not matter to it. -/
def okN (o : Oper) (l : Option Nat) : WS → Bool
  | [] => true
  | (k, st, _) :: r => waitsFor o k || (spares (isPure o.op) l st && okN o l r)
def waitsHead (o : Oper) : WS → Bool
  | [] => true
  | (k, _, _) :: _ => waitsFor o k
def isW (i : Nat) : WS → Bool
  | [] => false
  | (k, _, _) :: r => Nat.beq k i || isW i r
abbrev Lds := List (Option Nat)
def ldAt (l : Lds) (i : Nat) : Option Nat := (l[i]?).getD none
/-- A store into box b waits for all that stands ahead of it and to which it matters. -/
def storeOk (all : List Oper) (o : Oper) (ws : WS) (ls : Lds) (b : Nat) (n : Nat) : Bool := (List.range n).all fun i => waitsFor o i || pureAt all i || isW i ws || otherB b (ldAt ls i)
/-- The box that a store stores into. -/
def stBox (env : Env) : Op → Option Nat
  | .store _ a _ => boxOf (opdA env a)
  | _ => none

noncomputable def doOpsD (T : Tab) (O : Orc) (g : List PC) (all : Array Oper) (env : Env) (h : Heap) : List Oper → Vals → WS → Lds → Option (Vals × WS)
  | [], vals, ws, _ => some (vals, ws)
  | o :: r, vals, ws, ls =>
    if o.guard = none ∧ (o.after.toList.all (fun e => !Region.binds .any e || decide (e.on < vals.length))) = true ∧ okN o (ldOf (envD all.toList env vals o) o.op) ws = true then
      match doOp T O g (envD all.toList env vals o) (heapN h o ws) o.op with
      | some (v, h') =>
        if isStore o.op = true then (match stBox (envD all.toList env vals o) o.op with
          | some b => if waitsHead o ws = true ∧ storeOk all.toList o ws ls b vals.length = true then doOpsD T O g all env h r (vals ++ [o.dst.map (·, v)]) ((vals.length, some b, h') :: ws) (ls ++ [none]) else none
          | none => none)
        else if h'.length = (heapN h o ws).length then doOpsD T O g all env h r (vals ++ [o.dst.map (·, v)]) ws (ls ++ [ldOf (envD all.toList env vals o) o.op])
        else if waitsHead o ws = true then doOpsD T O g all env h r (vals ++ [o.dst.map (·, v)]) ((vals.length, none, h') :: ws) (ls ++ [none]) else none
      | none => none
    else none

def valsEnv : Vals → Env
  | [] => []
  | some x :: r => x :: valsEnv r
  | none :: r => valsEnv r

noncomputable def doDraw (T : Tab) (O : Orc) (g : List PC) (all : Array Oper) (s : St) : Option St :=
  match doOpsD T O g all s.env s.heap all.toList [] [] [] with
  | some (vals, ws) => some ⟨valsEnv vals ++ s.env, headH s.heap ws⟩
  | none => none

/-- No two operations put into one slot. -/
def apartD (all : List Oper) : Bool := match all with
  | [] => true
  | o :: r => (match o.dst with
    | some d => r.all (fun o' => o'.dst != some d)
    | none => true) && apartD r

end Go.Proofs.YtnkdmdjnnbkfgaaGreat.Eng
