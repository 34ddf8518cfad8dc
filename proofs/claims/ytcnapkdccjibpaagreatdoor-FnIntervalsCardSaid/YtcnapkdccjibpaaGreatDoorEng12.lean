/- The same, told step by step, so that a proof can walk through it: what is still to be done stands as plain data. -/
import Derived.Test.YtcnapkdccjibpaaGreatDoorEng11
namespace Go.Proofs.YtcnapkdccjibpaaGreatDoor.Eng
open Go Go.RowKit
set_option linter.unusedVariables false
set_option linter.unusedSimpArgs false

def cnd : Bool → Prop → Prop → Prop
  | true, A, _ => A
  | false, _, B => B

structure Reqs (p X : Prop) : Prop where
  pre : p
  go : X

theorem cnd_iff {b : Bool} {A B : Prop} : cnd b A B ↔ (b = true → A) ∧ (b = false → B) := by
  cases b <;> simp [cnd]
theorem cnd_split {b : Bool} {A B : Prop} (h1 : b = true → A) (h2 : b = false → B) : cnd b A B := cnd_iff.2 ⟨h1, h2⟩
theorem cnd_t {A B : Prop} : cnd true A B = A := rfl
theorem cnd_f {A B : Prop} : cnd false A B = B := rfl

section
variable (T : Tab) (O : Orc) (g : Gv)

/-! ### One operation -/

def st1 (d : Option Tmp) (env : Env) (h : Heap) : Option SV → Option St
  | some v => some ⟨putE env d (some v), h⟩
  | none => none
def stH (d : Option Tmp) (env : Env) : Option (Option SV × Heap) → Option St
  | some (v, h) => some ⟨putE env d v, h⟩
  | none => none
def binO (op : BinOp) (t : Nat) : Option AV → Option AV → Option SV
  | some a, some b => (bin T op t a b).map sp
  | _, _ => none
def unO (op : UnOp) : Option PC → Option SV
  | some a => (un op a).map sp
  | none => none
def cellsO : Option AV → Option (List PC)
  | some a => cellsOf a
  | none => none
def boxO (h : Heap) : Option (List PC) → Option (Option SV × Heap)
  | some cs => some (some (.v (.c (.ptr (.own h.length 0)))), h ++ [cs])
  | none => none
def loadC (d : TD) (o : Nat) : Option (List PC) → Option SV
  | some cs => bif d.agg then (bif Nat.ble (o + d.size) cs.length && !cs.isEmpty then some (.v (.agg ((cs.drop o).take d.size))) else none) else (cs[o]?).map sp
  | none => none
def loadO (h : Heap) : Option AV → Option TD → Option SV
  | some (.c (.ptr (.own i o))), some d => loadC d o h[i]?
  | some (.c (.ptr (.giv j))), some d => bif d.agg then none else (g.l[j]?).map sp
  | some (.c (.ptr (.abs a))), some d => bif d.agg then (cellsAt g.m a 0 d.size).map (fun cs => .v (.agg cs)) else (g.m a).map sp
  | _, _ => none
def storeC (h : Heap) (i o n : Nat) : Option (List PC) → Option (List PC) → Option (Option SV × Heap)
  | some cs, some new => bif Nat.beq new.length n && Nat.ble (o + n) cs.length && !cs.isEmpty then some (none, h.set i (splice cs o new)) else none
  | _, _ => none
def storeO (h : Heap) : Option AV → Option AV → Option TD → Option (Option SV × Heap)
  | some (.c (.ptr (.own i o))), some v, some d => storeC h i o d.size h[i]? (cellsOf v)
  | _, _, _ => none
def convO (p : Bool) (h : Heap) (m : Addr → Option PC) : Option AV → Option TD → Option TD → Option SV
  | some (.c (.p (.int _ n))), some _, some d => match d.ik with
    | some k => some (sp (.int k (k.wrap n)))
    | none => none
  | some a, some du, some d => (textF p du d (rowCells 1 h m a)).map sp
  | _, _, _ => none
def byteB (p : Bool) (du d : TD) (h : Heap) (s : ByteArray) : Option (Option SV × Heap) := match byteF p du d h s with
  | some (r, h') => some (some r, h')
  | none => none
def convP (h : Heap) : Option SV → Option (Option SV × Heap)
  | some v => some (some v, h)
  | none => none
def convH (p : Bool) (h : Heap) (m : Addr → Option PC) : Option AV → Option TD → Option TD → Option (Option SV × Heap)
  | some (.c (.p (.str s))), some du, some d => byteB p du d h s
  | a, du, d => convP h (convO p h m a du d)
def fieldO (f : Nat) : Option AV → Option TD → Option SV
  | some (.agg xs), some d => match (d.fields[f]?).bind (xs[·]?) with
    | some c => some (sp c)
    | none => none
  | _, _ => none
def faddrO (f : Nat) : Option AV → Option TD → Option SV
  | some (.c (.ptr (.own i o))), some d => match d.fields[f]? with
    | some q => some (.v (.c (.ptr (.own i (o + q)))))
    | none => none
  | _, _ => none
def extractO (j : Nat) : Option SV → Option SV
  | some (.tup xs) => match xs[j]? with
    | some a => some (.v a)
    | none => none
  | _ => none
def builtinO (b : Builtin) : Option (List AV) → Option SV
  | some l => (builtinF b l).map sp
  | none => none

def lenO : Option (List AV) → Option TD → Option SV
  | some [a], some d => (lenF d a).map fun n => sp (.int .i64 n)
  | _, _ => none

noncomputable def stepO (d : Option Tmp) (op : Op) (env : Env) (h : Heap) : Option St := match op with
  | .move x | .assign x => st1 d env h (opd env x)
  | .box _ x => stH d env (boxO h (cellsO (opdA env x)))
  | .load t x => st1 d env h (loadO g h (opdA env x) (T t))
  | .store t a x => stH d env (storeO h (opdA env a) (opdA env x) (T t))
  | .binOp op t x y _ => st1 d env h (binO T op t (opdA env x) (opdA env y))
  | .unOp op _ x => st1 d env h (unO op (opdP env x))
  | .convert u t x => stH d env (convH (pureTy t) h g.m (opdA env x) (T u) (T t))
  | .fieldAddr t x f => st1 d env h (faddrO f (opdA env x) (T t))
  | .field t x f => st1 d env h (fieldO f (opdA env x) (T t))
  | .extract x j => st1 d env h (extractO j (opd env x))
  | .call ⟨.builtin .len, l, ts⟩ => st1 d env h (lenO (argsA env l.toList) ((ts[0]?).bind T))
  | .call ⟨.builtin .append, l, ts⟩ => stH d env (doOp T O g env h (.call ⟨.builtin .append, l, ts⟩))
  | .call ⟨.builtin b, l, _⟩ => st1 d env h (builtinO b (argsA env l.toList))
  | .call ⟨.value _, _, _⟩ => none
  | .pick .. => none
  | op => stH d env (doOp T O g env h op)

variable {T O g} in
theorem stepO_ok {d : Option Tmp} {op : Op} {env : Env} {h : Heap} {s : St} (hs : stepO T O g d op env h = some s) : ∃ v, doOp T O g env h op = some (v, s.heap) ∧ s.env = putE env d v := by
  have one : ∀ o : Option SV, st1 d env h o = some s → ∃ v, o = some v ∧ s.heap = h ∧ s.env = putE env d (some v) := by
    intro o ho
    cases o with
    | none => cases ho
    | some v => simp [st1] at ho; subst ho; exact ⟨v, rfl, rfl, rfl⟩
  have hp : ∀ o : Option (Option SV × Heap), stH d env o = some s → ∃ v, o = some (v, s.heap) ∧ s.env = putE env d v := by
    intro o ho
    cases o with
    | none => cases ho
    | some x => obtain ⟨v, h'⟩ := x; simp [stH] at ho; subst ho; exact ⟨v, rfl, rfl⟩
  unfold stepO at hs
  split at hs
  · obtain ⟨v, h1, h2, h3⟩ := one _ hs; exact ⟨some v, by simp [doOp, h1, h2], h3⟩
  · obtain ⟨v, h1, h2, h3⟩ := one _ hs; exact ⟨some v, by simp [doOp, h1, h2], h3⟩
  · rename_i t x
    obtain ⟨v, h1, h2⟩ := hp _ hs
    refine ⟨v, ?_, h2⟩
    simp only [doOp]
    cases ha : opdA env x with
    | none => rw [ha] at h1; simp [cellsO, boxO] at h1
    | some a =>
      rw [ha] at h1
      simp only [cellsO] at h1
      simp only
      cases hc : cellsOf a with
      | none => rw [hc] at h1; cases h1
      | some cs => rw [hc] at h1; exact h1
  · rename_i t x
    obtain ⟨v, h1, h2, h3⟩ := one _ hs
    refine ⟨some v, ?_, h3⟩
    rw [h2]
    simp only [doOp]
    unfold loadO at h1
    split at h1
    · rename_i i o d' hx hT
      simp only [hx, hT]
      cases hc : h[i]? with
      | none => rw [hc] at h1; cases h1
      | some cs =>
        rw [hc] at h1
        simp only [loadC] at h1
        cases hagg : d'.agg with
        | true =>
          rw [hagg] at h1
          simp only [cond_true] at h1
          cases hle : (Nat.ble (o + d'.size) cs.length && !cs.isEmpty) with
          | false => rw [hle] at h1; cases h1
          | true =>
            rw [hle] at h1
            simp at h1
            rw [Bool.and_eq_true] at hle
            have hne : cs ≠ [] := by intro e; subst e; simp at hle
            simp [Nat.le_of_ble_eq_true hle.1, hne, h1]
        | false =>
          rw [hagg] at h1
          simp only [cond_false] at h1
          simp only [Bool.false_eq_true, if_false]
          cases hco : cs[o]? with
          | none => rw [hco] at h1; cases h1
          | some c => rw [hco] at h1; simp at h1; simp [h1]
    · rename_i j d' hx hT
      simp only [hx, hT]
      cases hagg : d'.agg with
      | true => rw [hagg] at h1; cases h1
      | false =>
        rw [hagg] at h1
        simp only [cond_false] at h1
        simp only [Bool.false_eq_true, if_false]
        cases hco : g.l[j]? with
        | none => rw [hco] at h1; cases h1
        | some c => rw [hco] at h1; simp at h1; simp [h1]
    · rename_i ad d' hx hT
      simp only [hx, hT]
      cases hagg : d'.agg with
      | true =>
        rw [hagg] at h1
        simp only [cond_true] at h1
        simp only [if_true]
        cases hco : cellsAt g.m ad 0 d'.size with
        | none => rw [hco] at h1; cases h1
        | some c => rw [hco] at h1; simp at h1; simp [h1]
      | false =>
        rw [hagg] at h1
        simp only [cond_false] at h1
        simp only [Bool.false_eq_true, if_false]
        cases hco : g.m ad with
        | none => rw [hco] at h1; cases h1
        | some c => rw [hco] at h1; simp at h1; simp [h1]
    · cases h1
  · rename_i t a x
    obtain ⟨v, h1, h2⟩ := hp _ hs
    refine ⟨v, ?_, h2⟩
    simp only [doOp]
    unfold storeO at h1
    split at h1
    · rename_i i o v' d' hx hv hT
      simp only [hx, hv, hT]
      cases hc : h[i]? with
      | none => rw [hc] at h1; cases h1
      | some cs =>
        cases hn : cellsOf v' with
        | none => rw [hc, hn] at h1; cases h1
        | some new =>
          rw [hc, hn] at h1
          simp only [storeC] at h1
          cases hb : (Nat.beq new.length d'.size && Nat.ble (o + d'.size) cs.length && !cs.isEmpty) with
          | false => rw [hb] at h1; cases h1
          | true =>
            rw [hb] at h1
            simp only [cond_true] at h1
            simp only [Bool.and_eq_true] at hb
            have e1 := Nat.eq_of_beq_eq_true hb.1.1
            have e2 := Nat.le_of_ble_eq_true hb.1.2
            have e3 : cs ≠ [] := by intro e; subst e; simp at hb
            simp only
            rw [if_pos ⟨e1, by omega, e3⟩]
            exact h1
    · cases h1
  · rename_i op t x y ty
    obtain ⟨v, h1, h2, h3⟩ := one _ hs
    refine ⟨some v, ?_, h3⟩
    rw [h2]
    simp only [doOp]
    unfold binO at h1
    split at h1
    · rename_i a b ha hb
      simp only [ha, hb]
      cases hr : bin T op t a b with
      | none => rw [hr] at h1; cases h1
      | some r => rw [hr] at h1; simp at h1; simp [h1]
    · cases h1
  · rename_i op t x
    obtain ⟨v, h1, h2, h3⟩ := one _ hs
    refine ⟨some v, ?_, h3⟩
    rw [h2]
    simp only [doOp]
    unfold unO at h1
    split at h1
    · rename_i a ha
      simp only [ha]
      cases hr : un op a with
      | none => rw [hr] at h1; cases h1
      | some r => rw [hr] at h1; simp at h1; simp [h1]
    · cases h1
  · rename_i u t x
    obtain ⟨v, h1, h2⟩ := hp _ hs
    refine ⟨v, ?_, h2⟩
    simp only [doOp]
    unfold convH at h1
    split at h1
    · rename_i ss du d' hx hu hT
      simp only [hx, hu, hT]
      unfold byteB at h1
      exact h1
    · rename_i hns
      cases hcv : convO (pureTy t) h g.m (opdA env x) (T u) (T t) with
      | none => rw [hcv] at h1; cases h1
      | some v0 =>
        rw [hcv] at h1
        simp only [convP, Option.some.injEq, Prod.mk.injEq] at h1
        obtain ⟨rfl, hh⟩ := h1
        rw [← hh]
        unfold convO at hcv
        split at hcv
        · rename_i k n du d' hx hu hT
          simp only [hx, hu, hT]
          cases hk : d'.ik with
          | none => rw [hk] at hcv; cases hcv
          | some k => rw [hk] at hcv; simp at hcv; simp [hcv]
        · rename_i b du d' hni hx hu hT
          have hnb : ∀ s, b ≠ .c (.p (.str s)) := fun s e => hns s du d' (by rw [hx, e]) hu hT
          simp only [hx, hu, hT]
          cases hk : textF (pureTy t) du d' (rowCells 1 h g.m b) with
          | none => rw [hk] at hcv; cases hcv
          | some r =>
            rw [hk] at hcv; simp at hcv; simp only [← hcv]
        · cases hcv
  · rename_i t x f
    obtain ⟨v, h1, h2, h3⟩ := one _ hs
    refine ⟨some v, ?_, h3⟩
    rw [h2]
    simp only [doOp]
    unfold faddrO at h1
    split at h1
    · rename_i i o d' hx hT
      simp only [hx, hT]
      cases hk : d'.fields[f]? with
      | none => rw [hk] at h1; cases h1
      | some q => rw [hk] at h1; simp at h1; simp [h1]
    · cases h1
  · rename_i t x f
    obtain ⟨v, h1, h2, h3⟩ := one _ hs
    refine ⟨some v, ?_, h3⟩
    rw [h2]
    simp only [doOp]
    unfold fieldO at h1
    split at h1
    · rename_i xs d' hx hT
      simp only [hx, hT]
      cases hk : (d'.fields[f]?).bind (xs[·]?) with
      | none => rw [hk] at h1; cases h1
      | some q => rw [hk] at h1; simp at h1; simp [h1]
    · cases h1
  · rename_i x j
    obtain ⟨v, h1, h2, h3⟩ := one _ hs
    refine ⟨some v, ?_, h3⟩
    rw [h2]
    simp only [doOp]
    unfold extractO at h1
    split at h1
    · rename_i xs hx
      simp only [hx]
      cases hk : xs[j]? with
      | none => rw [hk] at h1; cases h1
      | some q => rw [hk] at h1; simp at h1; simp [h1]
    · cases h1
  · rename_i l ts
    obtain ⟨v, h1, h2, h3⟩ := one _ hs
    refine ⟨some v, ?_, h3⟩
    rw [h2]
    simp only [doOp]
    unfold lenO at h1
    split at h1
    · rename_i a d' hl hT
      simp only [hl, hT]
      cases hr : lenF d' a with
      | none => rw [hr] at h1; cases h1
      | some r => rw [hr] at h1; simp at h1; simp [h1]
    · cases h1
  · exact hp _ hs
  · rename_i b l ts hb1 hb2
    obtain ⟨v, h1, h2, h3⟩ := one _ hs
    refine ⟨some v, ?_, h3⟩
    rw [h2]
    unfold builtinO at h1
    split at h1
    · rename_i l' hl
      cases hr : builtinF b l' with
      | none => rw [hr] at h1; cases h1
      | some r =>
        rw [hr] at h1; simp at h1
        cases b <;> first | (exact absurd rfl hb1) | (exact absurd rfl hb2) | (simp only [doOp, hl, hr]; simp [h1])
    · cases h1
  · cases hs
  · cases hs
  · exact hp _ hs

/-! ### Calls -/

def calleeO : Option AV → Option (Nat × List Pt)
  | some a => callee a
  | none => none
def capsA : List Pt → List AV
  | [] => []
  | q :: r => .c (.ptr q) :: capsA r
theorem capsA_eq {l : List Pt} : capsA l = l.map fun q => .c (.ptr q) := by
  induction l with
  | nil => rfl
  | cons q r ih => simp only [capsA, ih, List.map_cons]
def growO (h : Heap) : Option (Prop × SV × List (List PC)) → Option (Prop × SV × Heap)
  | some (p, r, new) => some (p, (grow h r new).1, (grow h r new).2)
  | none => none
def tellO (k : Nat) : Option (List AV × List PC) → Option (Prop × SV × List (List PC))
  | some (l, g') => O.f k l g'
  | none => none
def mX (h : Heap) (k : Nat) (args : List AV) : Option MT → Option (Prop × SV × Heap)
  | some M => M g.m args h
  | none => growO h (tellO O k (trArgs h g [] args))
def callX (h : Heap) : Option (Nat × List Pt) → Option (List AV) → Option (Prop × SV × Heap)
  | some (k, caps), some args => mX O g h k (args ++ capsA caps) (O.m k)
  | _, _ => none
def callR (f : Operand) (l : List Operand) (env : Env) (h : Heap) : Option (Prop × SV × Heap) :=
  callX O g h (calleeO (opdA env f)) (argsA env l)
def stC (d : Option Tmp) (env : Env) : Option (Prop × SV × Heap) → Option St
  | some (_, r, h') => some ⟨putE env d (some r), h'⟩
  | none => none
def reqO : Option (Prop × SV × Heap) → Prop → Prop
  | some (pre, _, _), X => Reqs pre X
  | none, _ => False

variable {T O g} in
theorem callX_ok {h : Heap} {k : Nat} {args : List AV} {pre : Prop} {r : SV} {h' : Heap} (hr : mX O g h k args (O.m k) = some (pre, r, h')) (hpre : pre) : callF O h g k args = some (r, h') := by
  unfold callF
  unfold mX at hr
  split at hr
  · rename_i M hM
    rw [hM]
    simp only
    rw [hr]
    simp only
    rw [if_pos hpre]
  · rename_i hM
    rw [hM]
    simp only
    cases ht : trArgs h g [] args with
    | none => rw [ht] at hr; simp only [tellO, growO] at hr; cases hr
    | some lg =>
      obtain ⟨l, g'⟩ := lg
      rw [ht] at hr
      simp only [tellO] at hr
      simp only
      cases ho : O.f k l g' with
      | none => rw [ho] at hr; cases hr
      | some x =>
        obtain ⟨p, r0, new⟩ := x
        rw [ho] at hr
        simp only [growO, Option.some.injEq, Prod.mk.injEq] at hr
        obtain ⟨rfl, rfl, rfl⟩ := hr
        simp only
        rw [if_pos hpre]
variable {T O g} in
theorem callR_ok {d : Option Tmp} {f : Operand} {l : List Operand} {ts : Array TypeId} {env : Env} {h : Heap} {X : Prop} (hr : reqO (callR O g f l env h) X) :
    ∃ s v, stC d env (callR O g f l env h) = some s ∧ doOp T O g env h (.call ⟨.value f, l.toArray, ts⟩) = some (v, s.heap) ∧ s.env = putE env d v ∧ X := by
  unfold callR at hr ⊢
  cases hf : opdA env f with
  | none => rw [hf] at hr; exact hr.elim
  | some fa =>
    cases hc : callee fa with
    | none => rw [hf] at hr; simp only [calleeO, hc] at hr; exact hr.elim
    | some kc =>
      obtain ⟨k, caps⟩ := kc
      cases ha : argsA env l with
      | none => rw [hf, ha] at hr; simp only [calleeO, hc] at hr; exact hr.elim
      | some args =>
        rw [hf, ha] at hr
        simp only [calleeO, hc, callX] at hr ⊢
        cases ht : mX O g h k (args ++ capsA caps) (O.m k) with
        | none => rw [ht] at hr; exact hr.elim
        | some x =>
          obtain ⟨pre, r, h'⟩ := x
          rw [ht] at hr
          refine ⟨_, some r, rfl, ?_, rfl, hr.go⟩
          have hcf := callX_ok ht hr.pre
          rw [capsA_eq] at hcf
          simp only [doOp, hf, hc, ha, hcf]

/-! ### Regions -/

def asBoolS : Option SV → Option Bool
  | some (.v (.c (.p (.bool b)))) => some b
  | _ => none

/-- The slot that decides whether an operation is carried out. -/
def gslot (all : List Oper) (j : Nat) : Option Nat := (all[j]?).bind (·.dst)
def gateO (env : Env) : Option Nat → Option Bool
  | some d => asBoolS (look env d)
  | none => none

def slotV (env : Env) : Option Nat → Option SV
  | some d => look env d
  | none => none
/-- An operation that is guarded: carried out, passed over, or passed over since its guard was. -/
def grd : Option SV → Bool → Prop → Prop → Prop → Prop
  | some (.v (.c (.p (.bool b)))), want, A, B, _ => cnd (b == want) A B
  | some (.tup []), _, _, _, C => C
  | _, _, _, _, _ => False

theorem grd_out {o : Option SV} {w : Bool} {A B C : Prop} (h : grd o w A B C) : (∃ b, o = some (.v (.c (.p (.bool b)))) ∧ ((b == w) = true → A) ∧ ((b == w) = false → B)) ∨ (o = some (.tup []) ∧ C) := by
  unfold grd at h
  split at h
  · exact .inl ⟨_, rfl, cnd_iff.1 h⟩
  · exact .inr ⟨rfl, h⟩
  · exact h.elim

/-- A test on a slot: behind it the slot is known. -/
def tell (env : Env) (d : Option Nat) (b : Bool) : Env := putE env d (some (sp (.bool b)))

def cndO : Option Bool → Prop → Prop → Prop
  | some b, A, B => cnd b A B
  | none, _, _ => False

theorem cndO_out {o : Option Bool} {A B : Prop} (h : cndO o A B) : ∃ b, o = some b ∧ (b = true → A) ∧ (b = false → B) := by
  cases o with
  | none => exact h.elim
  | some b => exact ⟨b, rfl, cnd_iff.1 h⟩

theorem tell_look {env : Env} {d : Option Nat} {b : Bool} (h : gateO env d = some b) : ∀ t, look (tell env d b) t = look env t := by
  intro t
  cases d with
  | none => cases h
  | some d =>
    simp only [tell, putE, look]
    by_cases e : t = d
    · rw [if_pos e]
      subst e
      simp only [gateO] at h
      unfold asBoolS at h
      split at h
      · rename_i b' hl
        simp at h; subst h
        rw [hl]; rfl
      · cases h
    · rw [if_neg e]

variable {T O g} in
theorem opd_congr {e1 e2 : Env} (h : ∀ t, look e1 t = look e2 t) (x : Operand) : opd e1 x = opd e2 x := by
  cases x <;> simp [opd, h]
variable {T O g} in
theorem doOp_congr {e1 e2 : Env} (h : ∀ t, look e1 t = look e2 t) (hp : Heap) (op : Op) : doOp T O g e1 hp op = doOp T O g e2 hp op := by
  have h0 : opd e1 = opd e2 := funext (opd_congr (h := h))
  have hA : opdA e1 = opdA e2 := by funext x; simp only [opdA, h0]
  have hP : opdP e1 = opdP e2 := by funext x; simp only [opdP, h0]
  have hargs : ∀ l, argsA e1 l = argsA e2 l := by
    intro l
    induction l with
    | nil => rfl
    | cons a r ih => simp only [argsA, hA, ih]
  have hparts : ∀ l, partsP e1 l = partsP e2 l := by
    intro l
    induction l with
    | nil => rfl
    | cons a r ih => obtain ⟨i, x⟩ := a; simp only [partsP, hP, ih]
  have hpartsA : ∀ l, partsA e1 l = partsA e2 l := by
    intro l
    induction l with
    | nil => rfl
    | cons a r ih => obtain ⟨i, x⟩ := a; simp only [partsA, hA, ih]
  have hopt : ∀ x, optI e1 x = optI e2 x := by
    intro x
    cases x with
    | none => rfl
    | some x => simp only [optI, hP]
  cases op <;> simp only [doOp, h0, hA, hP, hargs, hparts, hpartsA, hopt]

/-- Environments that read alike serve alike. -/
def Like (e1 e2 : Env) : Prop := ∀ t, look e1 t = look e2 t
theorem Like.put {e1 e2 : Env} (h : Like e1 e2) (d : Option Nat) (v : Option SV) : Like (putE e1 d v) (putE e2 d v) := by
  intro t
  cases d with
  | none => exact h t
  | some d => simp only [putE, look]; split <;> first | rfl | exact h t
theorem Like.goes {e1 e2 : Env} (h : Like e1 e2) (all : Array Oper) (o : Oper) : goes e1 all o = goes e2 all o := by
  unfold Eng.goes; simp only [h _]

def gateP (env : Env) (c : Operand) : Option Bool := asBoolS (opd env c)
def slotOf : Operand → Option Nat
  | .tmp t => some t
  | _ => none

def exec (d : Option Tmp) (op : Op) (env : Env) (h : Heap) (K : Option St → Prop) : Prop :=
  match op with
  | .pick c a b => cndO (gateP env c) (K (st1 d (tell env (slotOf c) true) h (opd env a))) (K (st1 d (tell env (slotOf c) false) h (opd env b)))
  | .call ⟨.value f, l, _⟩ => reqO (callR O g f l.toList env h) (K (stC d env (callR O g f l.toList env h)))
  | op => K (stepO T O g d op env h)

def opsS (all : List Oper) : List Oper → Option St → (Ex → St → Prop) → Prop
  | [], some s, Q => Q .normal s
  | o :: r, some s, Q => match o.guard with
    | none => exec T O g o.dst o.op s.env s.heap fun s' => opsS all r s' Q
    | some (j, want) => grd (slotV s.env (gslot all j)) want
        (exec T O g o.dst o.op (tell s.env (gslot all j) want) s.heap fun s' => opsS all r s' Q)
        (opsS all r (some ⟨putE (tell s.env (gslot all j) (!want)) o.dst (some (.tup [])), s.heap⟩) Q)
        (opsS all r (some ⟨putE s.env o.dst (some (.tup [])), s.heap⟩) Q)
  | _, none, _ => False

def ifS (b : Bool) (A : Prop) : Prop := match b with
  | true => A
  | false => False

def valOf : Option St → Option (Option SV × Heap)
  | some ⟨(_, v) :: _, h⟩ => some (v, h)
  | _ => none

def sameLen {α : Type} : List α → List α → Bool
  | [], [] => true
  | _ :: a, _ :: b => sameLen a b
  | _, _ => false

def freeK (h : Heap) (n : Nat) (s' : Option (Option SV × Heap)) (K : Option SV → List PC → Prop) : Prop := match s' with
  | some (v, h') => (match h'[h.length + n]? with
    | some cs => K v cs
    | none => False)
  | none => False
/-- One operation of a region that draws. -/
def opDraw (all : List Oper) (env : Env) (h : Heap) (A : Nat) (o : Oper) (vals : Vals) (fl : FL) (ws : WS) (ls : Lds) (K : Vals → FL → WS → Lds → Prop) : Prop :=
  ifS (o.after.toList.all fun e => !Region.binds .any e || Nat.blt e.on vals.length)
      (bif isFree o then ifS (ws.isEmpty && Nat.blt fl.length A) (exec T O g (some 0) o.op (envD all env vals o) (h ++ List.replicate fl.length []) fun s' => freeK h fl.length (valOf s') fun v cs =>
          K (vals ++ [o.dst.map (·, v)]) ((vals.length, h.length + fl.length, cs) :: fl) ws (ls ++ [none]))
      else ifS (okN o (ldOf (envD all env vals o) o.op) ws)
        (exec T O g (some 0) o.op (envD all env vals o) (heapN (fillH (waitsFor o) (h ++ List.replicate A []) fl) o ws) fun s' => match valOf s' with
          | some (v, h') => match touch O (envD all env vals o) o.op with
            | some b => ifS (waitsHead o ws && waitsFl o fl && Nat.beq fl.length A && storeOk all o ws ls b vals.length) (K (vals ++ [o.dst.map (·, v)]) fl ((vals.length, some b, h') :: ws) (ls ++ [none]))
            | none => bif sameLen h' (heapN (fillH (waitsFor o) (h ++ List.replicate A []) fl) o ws) then K (vals ++ [o.dst.map (·, v)]) fl ws (ls ++ [ldOf (envD all env vals o) o.op])
              else ifS (waitsHead o ws && waitsFl o fl && Nat.beq fl.length A) (K (vals ++ [o.dst.map (·, v)]) fl ((vals.length, none, h') :: ws) (ls ++ [none]))
          | none => False))
/-- Where a slot that is waited for comes from. -/
def srcC (x : Option (Option (Nat × Option SV))) (d k : Nat) (R : Option Nat) : Option Nat := match x with
  | some (some (t, _)) => bif Nat.beq t d then some k else R
  | _ => R
def srcOf (vals : Vals) (d : Nat) : List Edge → Option Nat
  | [] => none
  | e :: r => bif Region.binds .any e then srcC vals[e.on]? d e.on (srcOf vals d r) else srcOf vals d r
def guardD (vals : Vals) (l : List Edge) : Option Nat → Option Nat
  | some d => srcOf vals d l
  | none => none
def guardC (k : Nat) : Option (Option (Nat × Option SV)) → Option (Nat × Option SV)
  | some (some (_, v)) => some (k, v)
  | _ => none
def guardS (vals : Vals) : Option Nat → Option (Nat × Option SV)
  | some k => guardC k vals[k]?
  | none => none
def tellV : Vals → Nat → Bool → Vals
  | [], _, _ => []
  | x :: r, 0, b => (x.map fun y => (y.1, some (.v (.c (.p (.bool b)))))) :: r
  | x :: r, k + 1, b => x :: tellV r k b
def gateD (gv : Option (Nat × Option SV)) (want : Bool) (vals : Vals) (A B : Vals → Prop) : Prop := match gv with
  | some (k, v) => grd v want (A (tellV vals k want)) (B (tellV vals k (!want))) (B vals)
  | none => False
def drawsS (all : List Oper) (env : Env) (h : Heap) (A : Nat) : List Oper → Vals → FL → WS → Lds → (Ex → St → Prop) → Prop
  | [], vals, fl, ws, _, Q => ifS (Nat.beq fl.length A) (Q .normal ⟨valsEnv vals ++ env, headH (fillH (fun _ => true) (h ++ List.replicate A []) fl) ws⟩)
  | o :: r, vals, fl, ws, ls, Q => match o.guard with
    | none => opDraw T O g all env h A o vals fl ws ls fun v f w l => drawsS all env h A r v f w l Q
    | some (j, want) => gateD (guardS vals (guardD vals o.after.toList (gslot all j))) want vals (fun v2 => opDraw T O g all env h A o v2 fl ws ls fun v f w l => drawsS all env h A r v f w l Q)
        (fun v2 => ifS (o.after.toList.all fun e => !Region.binds .any e || Nat.blt e.on v2.length) (drawsS all env h A r (v2 ++ [o.dst.map (·, some (.tup []))]) fl ws (ls ++ [none]) Q))

def seqC (N : Option St → Prop) (Q : Ex → St → Prop) (e : Ex) (s : St) : Prop := match e with
  | .normal => N (some s)
  | .ret => Q .ret s
  | .exit i => Q (.exit i) s

/-- A region that draws, order by order. -/
def pickL (all : List Oper) : List Nat → List Oper
  | [] => []
  | k :: r => match all[k]? with
    | some o => o :: pickL all r
    | none => pickL all r
def allL {α : Type} (p : α → Prop) : List α → Prop
  | [] => True
  | x :: r => p x ∧ allL p r
theorem allL_mem {α : Type} {p : α → Prop} : ∀ {l : List α} {x : α}, allL p l → x ∈ l → p x
  | _ :: _, _, h, .head _ => h.1
  | _ :: _, _, h, .tail _ m => allL_mem h.2 m
theorem allL_mono {α : Type} {p q : α → Prop} (hq : ∀ x, p x → q x) : ∀ {l : List α}, allL p l → allL q l
  | [], _ => trivial
  | _ :: _, h => ⟨hq _ h.1, allL_mono hq h.2⟩
def edgesA : List Edge → List Nat
  | [] => []
  | e :: r => bif Region.binds .any e then e.on :: edgesA r else edgesA r
def edgesL : List Oper → List (List Nat)
  | [] => []
  | o :: r => edgesA o.after.toList :: edgesL r
def readyE (E : List (List Nat)) (done : List Bool) : List Nat :=
  (List.range E.length).filter fun i => !done.getD i true && (E.getD i []).all fun j => done.getD j false
def linsE (E : List (List Nat)) : Nat → List Bool → List (List Nat)
  | 0, _ => [[]]
  | f + 1, done => match readyE E done with
    | [] => [[]]
    | i :: r => (i :: r).flatMap fun k => (linsE E f (done.set k true)).map (k :: ·)

theorem edgesA_all {l : List Edge} {p : Nat → Bool} : (edgesA l).all p = l.all fun e => !Region.binds .any e || p e.on := by
  induction l with
  | nil => rfl
  | cons e r ih => cases h : Region.binds .any e <;> simp [edgesA, h, ih]
theorem edgesL_len : ∀ {l : List Oper}, (edgesL l).length = l.length
  | [] => rfl
  | o :: r => by simp [edgesL, edgesL_len (l := r)]
theorem edgesL_get : ∀ {l : List Oper} {i : Nat}, (edgesL l)[i]? = (l[i]?).map fun o => edgesA o.after.toList
  | [], i => by simp [edgesL]
  | o :: r, 0 => by simp [edgesL]
  | o :: r, i + 1 => by simp [edgesL, edgesL_get (l := r)]
theorem ready_eq {ops : Array Oper} {d : Array Bool} : Region.ready .any ops d = readyE (edgesL ops.toList) d.toList := by
  unfold Region.ready readyE
  rw [edgesL_len, Array.length_toList]
  refine List.filter_congr fun i hi => ?_
  have hi : i < ops.size := by simpa using hi
  have e1 : d.getD i true = d.toList.getD i true := by simp [Array.getD_eq_getD_getElem?, List.getD_eq_getElem?_getD]
  have e2 : ops[i]? = some ops[i] := by simp [hi]
  have e3 : (edgesL ops.toList).getD i [] = edgesA (ops[i]).after.toList := by
    rw [List.getD_eq_getElem?_getD, edgesL_get]; simp [hi]
  rw [e1, e2, e3, edgesA_all]
  simp [Array.getD_eq_getD_getElem?, List.getD_eq_getElem?_getD]
theorem lin_mem {ops : Array Oper} : ∀ (f t : Nat) (d : Array Bool), Region.linearise.go .any ops f t d [] ∈ linsE (edgesL ops.toList) f d.toList
  | 0, t, d => by simp [Region.linearise.go, linsE]
  | f + 1, t, d => by
    simp only [Region.linearise.go, linsE]
    change (match (Region.ready .any ops d)[t % (Region.ready .any ops d).length]? with
      | some i => Region.linearise.go .any ops f (t / (Region.ready .any ops d).length) (d.setIfInBounds i true) [i]
      | none => [].reverse) ∈ _
    rw [ready_eq]
    cases hr : readyE (edgesL ops.toList) d.toList with
    | nil => simp
    | cons x xs =>
      have hlt : t % (x :: xs).length < (x :: xs).length := Nat.mod_lt _ (by simp)
      rw [List.getElem?_eq_getElem hlt]
      simp only []
      rw [linearise_go_acc, List.reverse_singleton, List.singleton_append]
      refine List.mem_flatMap.2 ⟨_, List.getElem_mem hlt, List.mem_map.2 ⟨_, ?_, rfl⟩⟩
      have := lin_mem (ops := ops) f (t / (x :: xs).length) (d.setIfInBounds (x :: xs)[t % (x :: xs).length] true)
      simpa [Array.toList_setIfInBounds] using this
def drawB (all : List Oper) (s : St) (Q : Ex → St → Prop) : Prop :=
  allL (fun l => opsS T O g all (pickL all l) (some s) Q) (linsE (edgesL all) all.length (List.replicate all.length false))

/-- What is to be shown of code in a state. -/
def goS : Code → Option St → (Ex → St → Prop) → Prop
  | .skip, some s, Q => Q .normal s
  | .region _ ops false, some s, Q => opsS T O g ops.toList ops.toList (some s) Q
  | .region _ ops true, some s, Q => bif O.brute then drawB T O g ops.toList s Q else drawsS T O g ops.toList s.env s.heap (frees ops.toList) ops.toList [] [] [] [] Q
  | .seq a b, some s, Q => goS a (some s) (seqC (fun s' => goS b s' Q) Q)
  | .cond c a b, some s, Q => cndO (gateP s.env c) (goS a (some ⟨tell s.env (slotOf c) true, s.heap⟩) Q) (goS b (some ⟨tell s.env (slotOf c) false, s.heap⟩) Q)
  | .block id body, some s, Q => goS body (some s) (blockK id Q)
  | .loop body, some s, Q => ∀ X : St → Prop, (∀ s, goS body (some s) (seqK X Q) → X s) → X s
  | .exit id, some s, Q => Q (.exit id) s
  | .ret, some s, Q => Q .ret s
  | _, _, _ => False

end

/-! ### It holds -/

section
variable {P : Program} {w0 : World} {T : Tab} {O : Orc} {G : List Addr} {g : Gv} {nt : Nat}

theorem gateP_like {env : Env} {c : Operand} {b : Bool} (h : gateP env c = some b) : Like (tell env (slotOf c) b) env := by
  cases c with
  | tmp t => exact tell_look (d := some t) h
  | const v => exact fun t => rfl
  | global g => exact fun t => rfl
  | func f => exact fun t => rfl

theorem gateP_opd {env : Env} {c : Operand} {b : Bool} (h : gateP env c = some b) : opdP env c = some (.bool b) := by
  unfold gateP asBoolS at h
  split at h
  · rename_i b' hc
    simp at h; subst h
    simp [opdP, hc]
  · cases h

theorem exec_ok {d : Option Tmp} {op : Op} {env : Env} {h : Heap} {K : Option St → Prop} (hK : K none → False) (hx : exec T O g d op env h K) :
    ∃ v s env', doOp T O g env h op = some (v, s.heap) ∧ Like env' env ∧ s.env = putE env' d v ∧ K (some s) := by
  unfold exec at hx
  split at hx
  · rename_i c a b
    obtain ⟨t, ht, h1, h2⟩ := cndO_out hx
    have hc := gateP_opd ht
    have hl := gateP_like ht
    cases t with
    | true =>
      have h1 := h1 rfl
      cases ha : opd env a with
      | none => rw [ha] at h1; exact (hK h1).elim
      | some v =>
        rw [ha] at h1
        exact ⟨some v, ⟨putE (tell env (slotOf c) true) d (some v), h⟩, tell env (slotOf c) true, by simp [doOp, hc, ha], hl, rfl, h1⟩
    | false =>
      have h2 := h2 rfl
      cases ha : opd env b with
      | none => rw [ha] at h2; exact (hK h2).elim
      | some v =>
        rw [ha] at h2
        exact ⟨some v, ⟨putE (tell env (slotOf c) false) d (some v), h⟩, tell env (slotOf c) false, by simp [doOp, hc, ha], hl, rfl, h2⟩
  · rename_i f l ts
    obtain ⟨s, v, h1, h2, h3, h4⟩ := callR_ok (d := d) (ts := ts) hx
    rw [h1] at h4
    exact ⟨v, s, env, by simpa using h2, fun t => rfl, h3, h4⟩
  · rename_i hp hc
    cases hs : stepO T O g d op env h with
    | none => rw [hs] at hx; exact (hK hx).elim
    | some s =>
      rw [hs] at hx
      obtain ⟨v, h1, h2⟩ := stepO_ok hs
      exact ⟨v, s, env, h1, fun t => rfl, h2, hx⟩

theorem slotV_goes {env : Env} {all : Array Oper} {o : Oper} {j : Nat} {want : Bool} {v : SV} (ho : o.guard = some (j, want)) (hb : slotV env (gslot all.toList j) = some v) :
    goes env all o = (match v with
      | .v (.c (.p (.bool b))) => some (b == want)
      | .tup [] => some false
      | _ => none) := by
  unfold goes
  rw [ho]
  simp only
  have : gslot all.toList j = (all[j]?).bind (·.dst) := by simp [gslot]
  rw [this] at hb
  cases hd : (all[j]?).bind (·.dst) with
  | none => rw [hd] at hb; cases hb
  | some d =>
    rw [hd] at hb
    simp only [slotV] at hb
    simp only [hb]
    cases v with
    | v a => cases a with
      | c x => cases x with
        | p y => cases y <;> rfl
        | ptr q => rfl
        | clo f caps => rfl
        | row i o n z => rfl
        | emp i o => rfl
      | agg xs => rfl
    | tup l => cases l <;> rfl
theorem slotV_gate {env : Env} {d : Option Nat} {b : Bool} (h : slotV env d = some (.v (.c (.p (.bool b))))) : gateO env d = some b := by
  cases d with
  | none => cases h
  | some d => simp only [slotV] at h; simp [gateO, asBoolS, h]

theorem opsS_none {all l : List Oper} {Q : Ex → St → Prop} (h : opsS T O g all l none Q) : False := by
  cases l <;> exact h

theorem opsS_ok {all : Array Oper} {Q : Ex → St → Prop} : ∀ {l : List Oper} {s : St} {e : Env}, Like e s.env → opsS T O g all.toList l (some s) Q →
    ∃ s' s'', doOps T O g all l ⟨e, s.heap⟩ = some s' ∧ Like s'.env s''.env ∧ s'.heap = s''.heap ∧ Q .normal s''
  | [], s, e, hl, h => ⟨⟨e, s.heap⟩, s, rfl, hl, rfl, h⟩
  | o :: r, s, e, hl, h => by
    have step : ∀ env : Env, Like e env → goes e all o = some true → exec T O g o.dst o.op env s.heap (fun s' => opsS T O g all.toList r s' Q) →
        ∃ s' s'', doOps T O g all (o :: r) ⟨e, s.heap⟩ = some s' ∧ Like s'.env s''.env ∧ s'.heap = s''.heap ∧ Q .normal s'' := by
      intro env hle hg hx
      obtain ⟨v, s1, env', h1, h2, h2', h3⟩ := exec_ok opsS_none hx
      rw [doOp_congr (fun t => (hle t).symm)] at h1
      have hl1 : Like (putE e o.dst v) s1.env := by
        rw [h2']
        exact Like.put (fun t => (hle t).trans (h2 t).symm) o.dst v
      obtain ⟨s', s'', k1, k2, k3, k4⟩ := opsS_ok hl1 h3
      exact ⟨s', s'', by simp only [doOps, hg, h1]; exact k1, k2, k3, k4⟩
    simp only [opsS] at h
    split at h
    · rename_i hg
      exact step s.env hl (by simp [goes, hg]) h
    · rename_i j want hg
      rcases grd_out h with ⟨b, hv, h1, h2⟩ | ⟨hv, h⟩
      · have hgo := slotV_goes hg hv
        rw [← hl.goes] at hgo
        simp only at hgo
        have hb := slotV_gate hv
        cases hbw : (b == want) with
        | true =>
          have e0 : b = want := by simpa using hbw
          subst e0
          have hlt : Like e (tell s.env (gslot all.toList j) b) := fun t => (hl t).trans (tell_look hb t).symm
          rw [hbw] at hgo
          exact step _ hlt hgo (h1 hbw)
        | false =>
          have e0 : b = !want := by cases b <;> cases want <;> simp at hbw ⊢
          have h2' := h2 hbw
          rw [← e0] at h2'
          have hlt : Like (putE e o.dst (some (.tup []))) (putE (tell s.env (gslot all.toList j) b) o.dst (some (.tup []))) := Like.put (fun t => (hl t).trans (tell_look hb t).symm) o.dst (some (.tup []))
          rw [hbw] at hgo
          obtain ⟨s', s'', k1, k2, k3, k4⟩ := opsS_ok (s := ⟨putE (tell s.env (gslot all.toList j) b) o.dst (some (.tup [])), s.heap⟩) hlt h2'
          exact ⟨s', s'', by simp only [doOps, hgo]; exact k1, k2, k3, k4⟩
      · have hgo := slotV_goes hg hv
        rw [← hl.goes] at hgo
        simp only at hgo
        have hlt : Like (putE e o.dst (some (.tup []))) (putE s.env o.dst (some (.tup []))) := Like.put hl o.dst (some (.tup []))
        obtain ⟨s', s'', k1, k2, k3, k4⟩ := opsS_ok (s := ⟨putE s.env o.dst (some (.tup [])), s.heap⟩) hlt h
        exact ⟨s', s'', by simp only [doOps, hgo]; exact k1, k2, k3, k4⟩

theorem sameLen_ok {α : Type} : ∀ {a b : List α}, sameLen a b = true → a.length = b.length
  | [], [], _ => rfl
  | _ :: a, _ :: b, h => by simp [sameLen_ok (a := a) (b := b) h]
  | [], _ :: _, h => by cases h
  | _ :: _, [], h => by cases h
theorem sameLen_no {α : Type} : ∀ {a b : List α}, sameLen a b = false → ¬ a.length = b.length
  | [], [], h => by cases h
  | _ :: a, _ :: b, h => by simp; exact sameLen_no (a := a) (b := b) h
  | [], _ :: _, _ => by simp
  | _ :: _, [], _ => by simp

theorem ifS_out {b : Bool} {A : Prop} (h : ifS b A) : b = true ∧ A := by
  cases b
  · exact h.elim
  · exact ⟨rfl, h⟩

theorem opDraw_ok {all : Array Oper} {env : Env} {h : Heap} {A : Nat} {X : Vals → FL → WS → Prop} {o : Oper} {r : List Oper} {vals : Vals} {fl : FL} {ws : WS} {ls : Lds} {K : Vals → FL → WS → Lds → Prop}
    (hrec : ∀ v f w l, K v f w l → ∃ v' F W, doOpsD T O g all env h A r v f w l = some (v', F, W) ∧ X v' F W) (hg : goes (envD all.toList env vals o) all o = some true)
    (hk : opDraw T O g all.toList env h A o vals fl ws ls K) : ∃ v' F W, doOpsD T O g all env h A (o :: r) vals fl ws ls = some (v', F, W) ∧ X v' F W := by
    unfold opDraw at hk
    obtain ⟨hed, hk⟩ := ifS_out hk
    have hed' : (o.after.toList.all fun e => !Region.binds .any e || decide (e.on < vals.length)) = true := by
      rw [List.all_eq_true]
      intro e he
      have := List.all_eq_true.1 hed e he
      simp only [Bool.or_eq_true] at this ⊢
      rcases this with h | h
      · exact .inl h
      · exact .inr (decide_eq_true (Nat.blt_eq.mp h))
    simp only [doOpsD]
    rw [if_pos hed', hg]
    simp only
    have hvo : ∀ (s1 : St) (env' : Env) (v : Option SV), s1.env = putE env' (some 0) v → valOf (some s1) = some (v, s1.heap) := by
      intro s1 env' v h2'
      obtain ⟨env1, heap1⟩ := s1
      simp only at h2'
      subst h2'
      rfl
    cases hfr : isFree o with
    | true =>
      rw [hfr] at hk
      simp only [cond_true] at hk
      rw [if_pos rfl]
      obtain ⟨hc, hk⟩ := ifS_out hk
      rw [Bool.and_eq_true] at hc
      have hws : ws = [] := by simpa using hc.1
      rw [if_pos ⟨hws, Nat.blt_eq.mp hc.2⟩]
      obtain ⟨v, s1, env', h1, h2, h2', h3⟩ := exec_ok (fun h => by simp [valOf, freeK] at h) hk
      rw [hvo s1 env' v h2'] at h3
      simp only [h1]
      unfold freeK at h3
      simp only at h3
      split at h3
      · rename_i cs hcs
        simp only [hcs]
        exact hrec _ _ _ _ h3
      · exact h3.elim
    | false =>
      rw [hfr] at hk
      simp only [cond_false] at hk
      rw [if_neg (by simp)]
      obtain ⟨hok, hk⟩ := ifS_out hk
      rw [if_pos hok]
      obtain ⟨v, s1, env', h1, h2, h2', h3⟩ := exec_ok (fun h => by simp [valOf] at h) hk
      rw [hvo s1 env' v h2'] at h3
      simp only at h3
      simp only [h1]
      split at h3
      · rename_i b hb
        obtain ⟨hw, h3⟩ := ifS_out h3
        simp only [Bool.and_eq_true] at hw
        obtain ⟨v', F, W, k1, k2⟩ := hrec _ _ _ _ h3
        rw [hb]
        simp only
        rw [if_pos ⟨hw.1.1.1, hw.1.1.2, Nat.eq_of_beq_eq_true hw.1.2, hw.2⟩, k1]
        exact ⟨_, _, _, rfl, k2⟩
      · rename_i hb
        rw [hb]
        simp only
        cases hsl : sameLen s1.heap (heapN (fillH (waitsFor o) (h ++ List.replicate A []) fl) o ws) with
        | true =>
          rw [hsl] at h3
          simp only [cond_true] at h3
          rw [if_pos (sameLen_ok hsl)]
          exact hrec _ _ _ _ h3
        | false =>
          rw [hsl] at h3
          simp only [cond_false] at h3
          rw [if_neg (sameLen_no hsl)]
          obtain ⟨hw, h3⟩ := ifS_out h3
          simp only [Bool.and_eq_true] at hw
          rw [if_pos ⟨hw.1.1, hw.1.2, Nat.eq_of_beq_eq_true hw.2⟩]
          exact hrec _ _ _ _ h3

theorem srcOf_ok {vals : Vals} {d k : Nat} {rest : Env} : ∀ {l : List Edge}, srcOf vals d l = some k → ∃ v, vals[k]? = some (some (d, v)) ∧ look (entries vals l ++ rest) d = v ∧ (l.all fun e => !Region.binds .any e) = false
  | [], h => by cases h
  | e :: r, h => by
    simp only [srcOf] at h
    cases hb : Region.binds .any e with
    | false =>
      rw [hb] at h
      obtain ⟨v, h1, h2, h3⟩ := srcOf_ok (l := r) h
      refine ⟨v, h1, ?_, by simp [h3]⟩
      simp only [entries, hb]
      exact h2
    | true =>
      rw [hb] at h
      simp only [cond_true] at h
      unfold srcC at h
      simp only [entries, hb, if_true]
      split at h
      · rename_i t v0 hv
        rw [hv]
        simp only
        cases ht : Nat.beq t d with
        | true =>
          rw [ht] at h
          simp only [cond_true, Option.some.injEq] at h
          have := Nat.eq_of_beq_eq_true ht
          subst this
          subst h
          exact ⟨v0, hv, by simp [look], by simp [hb]⟩
        | false =>
          rw [ht] at h
          simp only [cond_false] at h
          obtain ⟨v, h1, h2, h3⟩ := srcOf_ok (l := r) h
          refine ⟨v, h1, ?_, by simp [hb]⟩
          simp only [List.cons_append, look]
          rw [if_neg (fun e => by rw [e, Nat.beq_refl] at ht; cases ht)]
          exact h2
      · rename_i hn
        obtain ⟨v, h1, h2, h3⟩ := srcOf_ok (l := r) h
        refine ⟨v, h1, ?_, by simp [hb]⟩
        split
        · rename_i x hx
          exact absurd hx (hn x.1 x.2)
        · exact h2
theorem tellV_same {d : Nat} {b : Bool} : ∀ {vals : Vals} {k : Nat}, vals[k]? = some (some (d, some (.v (.c (.p (.bool b)))))) → tellV vals k b = vals
  | [], k, h => by simp at h
  | x :: r, 0, h => by simp at h; subst h; rfl
  | x :: r, k + 1, h => by simp only [tellV]; rw [tellV_same (vals := r) (k := k) (by simpa using h)]

theorem drawsS_ok {all : Array Oper} {env : Env} {h : Heap} {A : Nat} {Q : Ex → St → Prop} : ∀ {l : List Oper} {vals : Vals} {fl : FL} {ws : WS} {ls : Lds},
    drawsS T O g all.toList env h A l vals fl ws ls Q → ∃ v' F W, doOpsD T O g all env h A l vals fl ws ls = some (v', F, W) ∧ Q .normal ⟨valsEnv v' ++ env, headH (fillH (fun _ => true) (h ++ List.replicate A []) F) W⟩
  | [], vals, fl, ws, ls, hk => by
    simp only [drawsS] at hk
    obtain ⟨h1, h2⟩ := ifS_out hk
    exact ⟨vals, fl, ws, by simp only [doOpsD]; rw [if_pos (Nat.eq_of_beq_eq_true h1)], h2⟩
  | o :: r, vals, fl, ws, ls, hk => by
    simp only [drawsS] at hk
    have hrec : ∀ v f w l, drawsS T O g all.toList env h A r v f w l Q → ∃ v' F W, doOpsD T O g all env h A r v f w l = some (v', F, W) ∧ Q .normal ⟨valsEnv v' ++ env, headH (fillH (fun _ => true) (h ++ List.replicate A []) F) W⟩ := fun v f w l hh => drawsS_ok hh
    split at hk
    · rename_i hg
      exact opDraw_ok (X := fun v' F W => Q .normal ⟨valsEnv v' ++ env, headH (fillH (fun _ => true) (h ++ List.replicate A []) F) W⟩) hrec (by simp [goes, hg]) hk
    · rename_i j want hg
      unfold gateD at hk
      split at hk
      case h_2 => exact hk.elim
      rename_i k v hgv
      -- where it comes from
      obtain ⟨d, hd, hsv, hnf, hvk⟩ : ∃ d, gslot all.toList j = some d ∧ look (envD all.toList env vals o) d = v ∧ isFree o = false ∧ vals[k]? = some (some (d, v)) := by
        cases hd : gslot all.toList j with
        | none => rw [hd] at hgv; simp [guardD, guardS] at hgv
        | some d =>
          rw [hd] at hgv
          simp only [guardD] at hgv
          cases hs : srcOf vals d o.after.toList with
          | none => rw [hs] at hgv; simp [guardS] at hgv
          | some k' =>
            rw [hs] at hgv
            simp only [guardS] at hgv
            obtain ⟨v', h1, h2, h3⟩ := srcOf_ok (rest := dstsW all.toList.length all.toList ++ env) hs
            rw [h1] at hgv
            simp [guardC] at hgv
            obtain ⟨rfl, rfl⟩ := hgv
            exact ⟨d, rfl, h2, by simp [isFree, h3], h1⟩
      have skip : goes (envD all.toList env vals o) all o = some false → ifS (o.after.toList.all fun e => !Region.binds .any e || Nat.blt e.on vals.length) (drawsS T O g all.toList env h A r (vals ++ [o.dst.map (·, some (.tup []))]) fl ws (ls ++ [none]) Q) →
          ∃ v' F W, doOpsD T O g all env h A (o :: r) vals fl ws ls = some (v', F, W) ∧ Q .normal ⟨valsEnv v' ++ env, headH (fillH (fun _ => true) (h ++ List.replicate A []) F) W⟩ := by
        intro hgo hk
        obtain ⟨hed, hk⟩ := ifS_out hk
        have hed' : (o.after.toList.all fun e => !Region.binds .any e || decide (e.on < vals.length)) = true := by
          rw [List.all_eq_true]
          intro e he
          have := List.all_eq_true.1 hed e he
          simp only [Bool.or_eq_true] at this ⊢
          rcases this with h | h
          · exact .inl h
          · exact .inr (decide_eq_true (Nat.blt_eq.mp h))
        simp only [doOpsD]
        rw [if_pos hed', hgo]
        simp only [hnf, Bool.false_eq_true, if_false]
        exact hrec _ _ _ _ hk
      rcases grd_out hk with ⟨b, hv, h1, h2⟩ | ⟨hv, hk⟩
      · subst hv
        have hgo := slotV_goes (v := .v (.c (.p (.bool b)))) hg (env := envD all.toList env vals o) (all := all) (by rw [hd]; exact hsv)
        simp only at hgo
        cases hbw : (b == want) with
        | true =>
          have e0 : b = want := by simpa using hbw
          subst e0
          rw [hbw] at hgo
          have := h1 hbw
          rw [tellV_same hvk] at this
          exact opDraw_ok (X := fun v' F W => Q .normal ⟨valsEnv v' ++ env, headH (fillH (fun _ => true) (h ++ List.replicate A []) F) W⟩) hrec hgo this
        | false =>
          have e0 : b = !want := by cases b <;> cases want <;> simp at hbw ⊢
          have h2' := h2 hbw
          rw [← e0, tellV_same hvk] at h2'
          rw [hbw] at hgo
          exact skip hgo h2'
      · subst hv
        have hgo := slotV_goes (v := .tup []) hg (env := envD all.toList env vals o) (all := all) (by rw [hd]; exact hsv)
        exact skip hgo hk

theorem SR.like {ρ : List Blk} {e1 e2 : Env} {h : Heap} {a : Act} {w : World} (S : SR w0 G nt ρ e1 h a w) (hl : Like e1 e2) : SR w0 G nt ρ e2 h a w :=
  ⟨⟨fun t v hv => S.er.at_ t v ((hl t).trans hv), fun t v hv => S.er.wf t v ((hl t).trans hv)⟩, S.hr, S.size, S.defers⟩

theorem goS_none {c : Code} {Q : Ex → St → Prop} (h : goS T O g c none Q) : False := by
  cases c <;> first | exact h | (rename_i d; cases d <;> exact h)

theorem doOpsI_wp (hT : ∀ t d, T t = some d → TdOk P t d) (hO : Sound P O) (hG : GV G g w0)
    {all : Array Oper} (hd : ∀ o ∈ all, ∀ d, o.dst = some d → d < nt) {Q : Exit → Act → World → Prop} :
    ∀ (l : List Nat) (s s' : St) (ρ : List Blk) (a : Act) (w : World), SR w0 G nt ρ s.env s.heap a w →
      doOps T O g all (pickL all.toList l) s = some s' → (∀ ρ' a' w', Lq ρ ρ' → SR w0 G nt ρ' s'.env s'.heap a' w' → Q .normal a' w') →
      wpOps P all Q l a w
  | [], s, s', ρ, a, w, S, hs, hQ => by
    simp [pickL, doOps] at hs; subst hs
    exact hQ ρ a w (Lq.refl ρ) S
  | k :: r, s, s', ρ, a, w, S, hs, hQ => by
    cases hk : all[k]? with
    | none =>
      simp only [wpOps, hk]
      simp only [pickL, Array.getElem?_toList, hk] at hs
      exact doOpsI_wp hT hO hG hd r s s' ρ a w S hs hQ
    | some o =>
      have ho := hd o (Array.mem_of_getElem? hk)
      simp only [wpOps, hk]
      simp only [pickL, Array.getElem?_toList, hk, doOps] at hs
      split at hs
      · rename_i hg
        rw [goes_ok S.er hg]
        split at hs
        · rename_i v h' hop
          refine .inl (doOp_wp hT hO hG S.er S.hr hop fun ρ1 x w' hb => ?_)
          exact doOpsI_wp hT hO hG hd r _ s' ρ1 _ w' (put_step S ho hb) hs (fun ρ' a' w' hl => hQ ρ' a' w' (hb.1.trans hl))
        · cases hs
      · rename_i hg
        rw [goes_ok S.er hg]
        simp only [Bool.false_eq_true, if_false]
        exact doOpsI_wp hT hO hG hd r _ s' ρ _ w (put_undef S ho) hs hQ
      · cases hs

theorem goS_wp (hmix : P.follows .mixedOrders = true) (hT : ∀ t d, T t = some d → TdOk P t d) (hO : Sound P O) (hG : GV G g w0) {ρ0 : List Blk} :
    ∀ (c : Code), codeOk nt c = true → ∀ (s : St) (Q : Ex → St → Prop) (ρ : List Blk) (a : Act) (w : World), Lq ρ0 ρ → SR w0 G nt ρ s.env s.heap a w → goS T O g c (some s) Q → c.wp P (Lift w0 ρ0 G nt Q) a w := by
  intro c
  induction c with
  | skip => exact fun _ s Q ρ a w hq S h => wp_skip ⟨.normal, s, ρ, rfl, h, S, hq⟩
  | ret => exact fun _ s Q ρ a w hq S h => wp_ret ⟨.ret, s, ρ, rfl, h, S, hq⟩
  | exit id => exact fun _ s Q ρ a w hq S h => wp_exit ⟨.exit id, s, ρ, rfl, h, S, hq⟩
  | region id ops draw =>
    intro hok s Q ρ a w hq S h
    simp only [codeOk, Bool.and_eq_true] at hok
    have hd := dsts_ok hok.1
    cases draw with
    | false =>
      obtain ⟨s', s'', h1, h2, h3, h4⟩ := opsS_ok (e := s.env) (fun t => rfl) h
      refine wp_region ?_
      have := doOps_wp hT hO hG hd (Q := Lift w0 ρ0 G nt Q) ops.toList 0 (by simp) s s' ρ a w S h1 (fun ρ' a' w' hl S' => ⟨.normal, s'', ρ', rfl, h4, by rw [h3] at S'; exact S'.like h2, hq.trans hl⟩)
      simpa [List.range_eq_range'] using this
    | true =>
      simp only [goS] at h
      cases hbr : O.brute with
      | true =>
        rw [hbr, cond_true] at h
        refine wp_region_draw fun t => ?_
        simp only [Region.schedule, hmix, Bool.true_or, if_true]
        have hm := lin_mem (ops := ops) ops.size t (Array.replicate ops.size false)
        rw [Array.toList_replicate] at hm
        have hh := allL_mem h hm
        obtain ⟨s', s'', h1, h2, h3, h4⟩ := opsS_ok (e := s.env) (fun t => rfl) hh
        exact doOpsI_wp hT hO hG hd _ s s' ρ a _ ⟨S.er, HR.drew S.hr, S.size, S.defers⟩ h1 (fun ρ' a' w' hl S' => ⟨.normal, s'', ρ', rfl, h4, by rw [h3] at S'; exact S'.like h2, hq.trans hl⟩)
      | false =>
      rw [hbr, cond_false] at h
      obtain ⟨v, F, W, h1, h2⟩ := drawsS_ok h
      refine doDraw_wp hmix hT hO hG hd (by simpa using hok.2) S (s' := ⟨valsEnv v ++ s.env, headH (fillH (fun _ => true) (s.heap ++ List.replicate (frees ops.toList) []) F) W⟩) (by simp only [doDraw, h1]) (fun ρ' a' w' hl S' => ⟨.normal, _, ρ', rfl, h2, S', hq.trans hl⟩)
  | seq x y ihx ihy =>
    intro hok s Q ρ a w hq S h
    simp only [codeOk, Bool.and_eq_true] at hok
    refine wp_seq (wp_mono (ihx hok.1 s _ ρ a w hq S h) ?_)
    rintro e a' w' ⟨ex, s', ρ', rfl, hQ, S', hq'⟩
    cases ex with
    | normal => exact ihy hok.2 s' Q ρ' a' w' hq' S' hQ
    | ret => exact ⟨.ret, s', ρ', rfl, hQ, S', hq'⟩
    | exit i => exact ⟨.exit i, s', ρ', rfl, hQ, S', hq'⟩
  | cond c x y ihx ihy =>
    intro hok s Q ρ a w hq S h
    simp only [codeOk, Bool.and_eq_true] at hok
    obtain ⟨t, ht, h1, h2⟩ := cndO_out h
    have he := S.er.opdP (gateP_opd ht)
    have hl := gateP_like ht
    refine wp_cond_split (t := t) he (fun e => ?_) (fun e => ?_)
    · subst e; exact ihx hok.1 ⟨tell s.env (slotOf c) true, s.heap⟩ Q ρ a w hq (S.like (fun t => (hl t).symm)) (h1 rfl)
    · subst e; exact ihy hok.2 ⟨tell s.env (slotOf c) false, s.heap⟩ Q ρ a w hq (S.like (fun t => (hl t).symm)) (h2 rfl)
  | block id body ih =>
    intro hok s Q ρ a w hq S h
    refine wp_block (wp_mono (ih hok s _ ρ a w hq S h) ?_)
    rintro e a' w' ⟨ex, s', ρ', rfl, hQ, S', hq'⟩
    cases ex with
    | normal => exact ⟨.normal, s', ρ', rfl, hQ, S', hq'⟩
    | ret => exact ⟨.ret, s', ρ', rfl, hQ, S', hq'⟩
    | exit i =>
      simp only [Ex.of, Exit.inBlock]
      simp only [blockK] at hQ
      split
      · rename_i e; rw [if_pos e] at hQ; exact ⟨.normal, s', ρ', rfl, hQ, S', hq'⟩
      · rename_i e; rw [if_neg e] at hQ; exact ⟨.exit i, s', ρ', rfl, hQ, S', hq'⟩
  | loop body ih =>
    intro hok s Q ρ a w hq S h
    have hX := h (fun s => ∀ ρ a w, Lq ρ0 ρ → SR w0 G nt ρ s.env s.heap a w → ∀ (b : Frame) (k : List Item) (cs : List Frame),
      ∃ e a' w', Lift w0 ρ0 G nt Q e a' w' ∧ Arrives P (lone (b.at a (.code body :: .inLoop body :: k)) cs w) b k cs e a' w') ?_
    · intro b k cs
      obtain ⟨e, a', w', hl, harr⟩ := hX ρ a w hq S b k cs
      exact ⟨e, a', w', hl, .of_steps (.one step_loop) harr⟩
    · intro s hs ρ a w hq S b k cs
      obtain ⟨e, a1, w1, ⟨ex, s', ρ', rfl, hQ, S', hq'⟩, harr⟩ := ih hok s _ ρ a w hq S hs b (.inLoop body :: k) cs
      cases ex with
      | normal =>
        obtain ⟨e2, a2, w2, hl2, harr2⟩ := hQ ρ' a1 w1 hq' S' b k cs
        exact ⟨e2, a2, w2, hl2, .of_steps (Steps.trans harr (.one step_inLoop)) harr2⟩
      | ret => exact ⟨_, a1, w1, ⟨.ret, s', ρ', rfl, hQ, S', hq'⟩, .pass (x := .inLoop body) rfl (fun _ _ => .inl (by simp [Ex.of])) harr⟩
      | exit i => exact ⟨_, a1, w1, ⟨.exit i, s', ρ', rfl, hQ, S', hq'⟩, .pass (x := .inLoop body) rfl (fun _ _ => .inl (by simp [Ex.of])) harr⟩
  | rangeFunc f ps asg body _ _ => exact fun _ s Q ρ a w hq S h => h.elim
  | scope body _ => exact fun _ s Q ρ a w hq S h => h.elim
  | label l => exact fun _ s Q ρ a w hq S h => h.elim
  | goto l => exact fun _ s Q ρ a w hq S h => h.elim
  | refuse why => exact fun _ s Q ρ a w hq S h => h.elim

/-- What is told at a function's end. -/
def endS (r : SV) (new h : Heap) : Option (List AV) → Prop
  | some l => resSV l = r ∧ r.res new ∧ h.take new.length = new
  | none => False
def EndsS (T : Tab) (g : Gv) (rs : List ResultVar) (r : SV) (new : Heap) (e : Ex) (s : St) : Prop :=
  match e with
  | .exit _ => False
  | .normal => endS r new s.heap (resAll T g s rs)
  | .ret => endS r new s.heap (resAll T g s rs)

theorem startSR {w0 w : World} {G : List Addr} {fn : Func} {args : List AV} {ρ : List Blk} {h : Heap} (H : HR w0 ρ h w) (hlen : args.length ≤ fn.ntmps) (hwf : ∀ x ∈ args, x.wf ρ) :
    SR w0 G fn.ntmps ρ (startEnv 0 args) h { tmps := (args.map (AV.conc ρ G)).toArray ++ Array.replicate (fn.ntmps - (args.map (AV.conc ρ G)).toArray.size) undef, defers := [] } w := by
  refine ⟨⟨?_, ?_⟩, H, by simp; omega, rfl⟩
  · intro t v hv
    obtain ⟨j, a, rfl, ha, rfl⟩ := look_start args 0 t v hv
    have hj : j < args.length := (List.getElem?_eq_some_iff.1 ha).1
    simp only [Nat.zero_add]
    rw [Array.getElem?_append_left (by simpa using hj)]
    simp [ha, SV.conc]
  · intro t v hv
    obtain ⟨j, a, rfl, ha, rfl⟩ := look_start args 0 t v hv
    exact hwf a (List.mem_of_getElem? ha)

/-- What a function is given that is told by cells alone. -/
def gl (g : List PC) : Gv := ⟨g, fun _ => none⟩

theorem fn_of_go {n : Nat} {fn : Func} {c : Code} {F : List AV → List PC → Option (Prop × SV × List (List PC))} (hmix : P.follows .mixedOrders = true)
    (hT : ∀ t d, T t = some d → TdOk P t d) (hO : Sound P O) (hf : P.funcs[n]? = some fn) (hname : (fn.name == "runtime.NumGoroutine") = false) (hb : fn.body = some c) {nt : Nat} (hnt : fn.ntmps = nt) (hok : codeOk nt c = true) {rs : List ResultVar} (hrs : fn.results = rs.toArray)
    (h : ∀ args g pre r new, F args g = some (pre, r, new) → pre → args.length ≤ nt ∧ goS T O (gl g) c (some ⟨startEnv 0 args, []⟩) (EndsS T (gl g) rs r new)) : Fn P n F where
  enters := enters_of hf hname hb
  calls := by
    intro args g pre r new hF hpre hwf G w hG
    obtain ⟨hlen, hvc⟩ := h args g pre r new hF hpre
    subst hnt
    refine calls_of_wp hf hb ?_
    have S := startSR (G := G) (fn := fn) (HR.start w) hlen hwf
    refine wp_mono (goS_wp hmix hT hO (g := gl g) ⟨hG, MR.none hG.tabs⟩ c hok _ _ [] _ w (Lq.refl _) S hvc) ?_
    rintro e a' w' ⟨ex, s', ρ', rfl, hq, S', _⟩
    have fin : endS r new s'.heap (resAll T (gl g) s' rs) →
        a'.defers = [] ∧ ∃ v, (results fn a'.tmps).run P w' = .ok v w' ∧ ∃ σ, Ending.returned v = .returned (r.conc σ G) ∧ HR w σ new w' ∧ r.res new := by
      intro he
      cases hl : resAll T (gl g) s' rs with
      | none => rw [hl] at he; exact he.elim
      | some l =>
        rw [hl] at he
        obtain ⟨rfl, hres, htake⟩ := he
        have hT' := S'.hr.take new.length
        rw [htake] at hT'
        refine ⟨S'.defers, _, (results_ok hT S' (fn := fn) (by rw [hrs]; exact hl)).1, ρ'.take new.length, ?_, hT', hres⟩
        have hle : Le (ρ'.take new.length) ρ' := by
          intro i hi
          have hlt := blk_lt hi
          rw [List.length_take] at hlt
          simp [blk, List.getD, List.getElem?_take, show i < new.length by omega]
        rw [SV.conc_ext (SV.res_wf (fun i hi => hT'.ok hi) hres) hle]
    cases ex with
    | normal => exact fin hq
    | ret => exact fin hq
    | exit i => exact hq.elim

/-- The end of a function that turns boxes: k boxes stood ahead of it; 'sel': where its new boxes stand. -/
def AV.ren (k : Nat) (sel : List Nat) : AV → AV
  | .c (.row i o n z) => .c (.row (if i < k then i else sel.getD (i - k) 0) o n z)
  | .c (.emp i o) => .c (.emp (if i < k then i else sel.getD (i - k) 0) o)
  | .c (.ptr (.own i o)) => .c (.ptr (.own (if i < k then i else sel.getD (i - k) 0) o))
  | x => x
def SV.ren (k : Nat) (sel : List Nat) : SV → SV
  | .v x => .v (x.ren k sel)
  | .tup xs => .tup (xs.map (AV.ren k sel))
/-- No closure, and nothing outside. -/
def AV.plain (n : Nat) : AV → Prop
  | .c (.clo _ _) => False
  | .c (.row i _ _ _) => i < n
  | .c (.emp i _) => i < n
  | .c (.ptr (.own i _)) => i < n
  | _ => True
def SV.plain (n : Nat) : SV → Prop
  | .v x => x.plain n
  | .tup xs => ∀ x ∈ xs, x.plain n
structure EndM (k : Nat) (r : SV) (h' h1 : Heap) (l : List AV) : Prop where
  sel : ∃ sel : List Nat, resSV l = r.ren k sel ∧ r.plain (k + sel.length) ∧ sel.Nodup ∧ k ≤ h1.length ∧ h' = h1.take k ++ h'.drop k ∧ sel.length = (h'.drop k).length ∧
    ∀ (j i : Nat) (cs : List PC), sel[j]? = some i → (h'.drop k)[j]? = some cs → cs ≠ [] → h1[i]? = some cs ∧ k ≤ i
def endM (k : Nat) (r : SV) (h' h1 : Heap) : Option (List AV) → Prop
  | some l => EndM k r h' h1 l
  | none => False
def EndsM (T : Tab) (g : Gv) (rs : List ResultVar) (k : Nat) (r : SV) (h' : Heap) (e : Ex) (s : St) : Prop :=
  match e with
  | .exit _ => False
  | .normal => endM k r h' s.heap (resAll T g s rs)
  | .ret => endM k r h' s.heap (resAll T g s rs)

theorem ren_blk {ρ : List Blk} {k : Nat} {sel : List Nat} (hk : k ≤ ρ.length) {i : Nat} (hi : i < k + sel.length) : blk (ρ.take k ++ sel.map (blk ρ)) i = blk ρ (if i < k then i else sel.getD (i - k) 0) := by
  have htl : (ρ.take k).length = k := by simp; omega
  split
  · rename_i hlt
    rw [blk_left (by omega)]
    simp [blk, List.getD, List.getElem?_take, hlt]
  · rename_i hlt
    have := blk_right (ρ := ρ.take k) (σ := sel.map (blk ρ)) (i := i - k)
    rw [htl, show k + (i - k) = i by omega] at this
    rw [this]
    have hl : i - k < sel.length := by omega
    simp [blk, List.getD, hl]
theorem AV.ren_ok {ρ : List Blk} {G : List Addr} {k : Nat} {sel : List Nat} (hk : k ≤ ρ.length) {x : AV} (hp : x.plain (k + sel.length)) :
    (x.ren k sel).conc ρ G = x.conc (ρ.take k ++ sel.map (blk ρ)) G ∧ ((x.ren k sel).wf ρ → x.wf (ρ.take k ++ sel.map (blk ρ))) := by
  cases x with
  | agg xs => exact ⟨rfl, fun _ => trivial⟩
  | c y =>
    cases y with
    | p y => exact ⟨rfl, fun _ => trivial⟩
    | clo f caps => exact hp.elim
    | row i o n z =>
      have := ren_blk (ρ := ρ) hk (i := i) hp
      refine ⟨by simp only [AV.ren, AV.conc, Cl.conc]; rw [this], fun h => ?_⟩
      show (blk _ i).ok = true
      rw [this]; exact h
    | emp i o =>
      have := ren_blk (ρ := ρ) hk (i := i) hp
      refine ⟨by simp only [AV.ren, AV.conc, Cl.conc]; rw [this], fun h => ?_⟩
      show (blk _ i).ok = true
      rw [this]; exact h
    | ptr q =>
      cases q with
      | own i o =>
        have := ren_blk (ρ := ρ) hk (i := i) hp
        refine ⟨by simp only [AV.ren, AV.conc, Cl.conc, Pt.conc, Pt.addr]; rw [this], fun h => ?_⟩
        show (blk _ i).ok = true
        rw [this]; exact h
      | giv j => exact ⟨rfl, fun _ => trivial⟩
      | abs a => exact ⟨rfl, fun _ => trivial⟩
theorem SV.ren_ok {ρ : List Blk} {G : List Addr} {k : Nat} {sel : List Nat} (hk : k ≤ ρ.length) {x : SV} (hp : x.plain (k + sel.length)) :
    (x.ren k sel).conc ρ G = x.conc (ρ.take k ++ sel.map (blk ρ)) G ∧ ((x.ren k sel).wf ρ → x.wf (ρ.take k ++ sel.map (blk ρ))) := by
  cases x with
  | v x => exact AV.ren_ok hk hp
  | tup xs =>
    constructor
    · simp only [SV.ren, SV.conc, List.map_map]
      congr 2
      exact List.map_congr_left fun x hx => (AV.ren_ok hk (hp x hx)).1
    · intro h x hx
      exact (AV.ren_ok (G := G) hk (hp x hx)).2 (h _ (List.mem_map.2 ⟨x, hx, rfl⟩))

theorem mn_of_go {n : Nat} {fn : Func} {c : Code} {M : MT} (hmix : P.follows .mixedOrders = true)
    (hT : ∀ t d, T t = some d → TdOk P t d) (hO : Sound P O) (hf : P.funcs[n]? = some fn) (hname : (fn.name == "runtime.NumGoroutine") = false) (hb : fn.body = some c) {nt : Nat} (hnt : fn.ntmps = nt) (hok : codeOk nt c = true) {rs : List ResultVar} (hrs : fn.results = rs.toArray)
    (h : ∀ m args hp pre r h', M m args hp = some (pre, r, h') → pre → args.length ≤ nt ∧ goS T O ⟨[], m⟩ c (some ⟨startEnv 0 args, hp⟩) (EndsM T ⟨[], m⟩ rs hp.length r h')) : Mn P n M where
  enters := enters_of hf hname hb
  calls := by
    intro m args hp pre r h' hM hpre w0 ρ G w H hm hwf
    obtain ⟨hlen, hvc⟩ := h m args hp pre r h' hM hpre
    subst hnt
    refine calls_of_wp hf hb ?_
    have S := startSR (G := G) (fn := fn) H hlen hwf
    refine wp_mono (goS_wp hmix hT hO (g := ⟨[], m⟩) ⟨GR.nil G hm.tabs, hm⟩ c hok _ _ ρ _ w (Lq.refl _) S hvc) ?_
    rintro e a' w' ⟨ex, s', ρ', rfl, hq, S', hLq⟩
    have fin : endM hp.length r h' s'.heap (resAll T ⟨[], m⟩ s' rs) →
        a'.defers = [] ∧ ∃ v, (results fn a'.tmps).run P w' = .ok v w' ∧ ∃ ρ1, Ending.returned v = .returned (r.conc ρ1 G) ∧ Lq ρ ρ1 ∧ HR w0 ρ1 h' w' ∧ r.wf ρ1 := by
      intro he
      cases hl : resAll T ⟨[], m⟩ s' rs with
      | none => rw [hl] at he; exact he.elim
      | some l =>
        rw [hl] at he
        obtain ⟨sel, e1, e2, e3, e4, e5, e6, e7⟩ := he.sel
        have hres := results_ok hT S' (fn := fn) (by rw [hrs]; exact hl)
        have hk : hp.length ≤ ρ'.length := by rw [S'.hr.len]; exact e4
        have hsel := S'.hr.sel e4 e6 e7 e3
        rw [← e5] at hsel
        have hren := SV.ren_ok (G := G) hk e2
        refine ⟨S'.defers, _, hres.1, ρ'.take hp.length ++ sel.map (blk ρ'), by rw [e1, hren.1], ?_, hsel, hren.2 (by rw [← e1]; exact hres.2)⟩
        have hpl : ρ.length = hp.length := H.len
        refine ⟨by simp; omega, fun i hi => ?_⟩
        rw [ren_blk hk (by omega), if_pos (by omega)]
        exact hLq.2 i hi
    cases ex with
    | normal => exact fin hq
    | ret => exact fin hq
    | exit i => exact hq.elim
end

/-! ### Tables of calls -/

structure OE (P : Program) where
  n : Nat
  F : List AV → List PC → Option (Prop × SV × List (List PC))
  ok : Fn P n F ∨ Ext P n F
structure ME (P : Program) where
  n : Nat
  M : MT
  one : Bool
  one_ok : one = true → OneM M
  ok : Mn P n M
theorem no_one {p : Prop} : false = true → p := fun h => by cases h
def orcF {P : Program} : List (OE P) → Nat → List AV → List PC → Option (Prop × SV × List (List PC))
  | [], _, _, _ => none
  | e :: r, n, args, g => match Nat.beq n e.n with
    | true => e.F args g
    | false => orcF r n args g
def orcMs {P : Program} : List (ME P) → Nat → Option MT
  | [], _ => none
  | e :: r, n => bif Nat.beq n e.n then some e.M else orcMs r n
def orcOnes {P : Program} : List (ME P) → Nat → Bool
  | [], _ => false
  | e :: r, n => bif Nat.beq n e.n then e.one else orcOnes r n
theorem orcOnes_ok {P : Program} : ∀ (l : List (ME P)) n M, orcMs l n = some M → orcOnes l n = true → OneM M
  | [], n, M, h, _ => by cases h
  | e :: r, n, M, h, h1 => by
    cases hn : Nat.beq n e.n with
    | true =>
      simp [orcMs, hn] at h
      simp [orcOnes, hn] at h1
      subst h
      exact e.one_ok h1
    | false =>
      simp [orcMs, hn] at h
      simp [orcOnes, hn] at h1
      exact orcOnes_ok r n M h h1
def orc {P : Program} (l : List (OE P)) : Orc := ⟨orcF l, fun _ => none, fun _ => false, (fun _ _ h => by cases h), false⟩
def orcM {P : Program} (l : List (OE P)) (m : List (ME P)) : Orc := ⟨orcF l, orcMs m, orcOnes m, orcOnes_ok m, false⟩
def orcB {P : Program} (l : List (OE P)) (m : List (ME P)) : Orc := ⟨orcF l, orcMs m, orcOnes m, orcOnes_ok m, true⟩
theorem orcF_sound {P : Program} : ∀ (l : List (OE P)) n args g x, orcF l n args g = some x → Fn P n (orcF l n) ∨ Ext P n (orcF l n)
  | [], n, args, g, x, h => by cases h
  | e :: r, n, args, g, x, h => by
    cases hn : Nat.beq n e.n with
    | true =>
      have en : n = e.n := Nat.eq_of_beq_eq_true hn
      have : orcF (e :: r) n = e.F := by funext a b; simp [orcF, hn]
      rw [this, en]; exact e.ok
    | false =>
      have : orcF (e :: r) n = orcF r n := by funext a b; simp [orcF, hn]
      simp only [orcF, hn] at h
      rw [this]; exact orcF_sound r n args g x h
theorem orcMs_sound {P : Program} : ∀ (l : List (ME P)) n M, orcMs l n = some M → Mn P n M
  | [], n, M, h => by cases h
  | e :: r, n, M, h => by
    cases hn : Nat.beq n e.n with
    | true =>
      have en : n = e.n := Nat.eq_of_beq_eq_true hn
      simp [orcMs, hn] at h
      subst h
      rw [en]; exact e.ok
    | false =>
      simp [orcMs, hn] at h
      exact orcMs_sound r n M h
theorem orc_sound {P : Program} (l : List (OE P)) : Sound P (orc l) := ⟨orcF_sound l, fun n M h => by cases h⟩
theorem orcM_sound {P : Program} (l : List (OE P)) (m : List (ME P)) : Sound P (orcM l m) := ⟨orcF_sound l, orcMs_sound m⟩
theorem orcB_sound {P : Program} (l : List (OE P)) (m : List (ME P)) : Sound P (orcB l m) := ⟨orcF_sound l, orcMs_sound m⟩

end Go.Proofs.YtcnapkdccjibpaaGreatDoor.Eng
